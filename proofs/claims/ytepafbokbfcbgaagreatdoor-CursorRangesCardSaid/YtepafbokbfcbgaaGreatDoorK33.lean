/- ref11.leaves. | ref11.With. -/
import Derived.Test.YtepafbokbfcbgaaGreatDoorK32
import Derived.Deep.CutBlock
import Derived.Deep.DeepCutAuto
import Derived.Test.YtepafbokbfcbgaaGreatDoorK03
namespace Go.Proofs.YtepafbokbfcbgaaGreatDoor
open Go.RowKit
attribute [local go_sem ↓] Go.wp_at_zero Go.wp_at_succ
theorem encP_ok : EncOk encP 2 := ⟨fun _ => rfl, by intro x u hu; simp [encP] at hu; rcases hu with rfl | rfl <;> rfl⟩
theorem Own.some {α : Type} {F : Nat → Prop} {w : World} {base : Nat} {e : TypeId} {sz : Nat} {enc : α → List Value} {v : Value} {l : List α} (h : Own F w base e sz enc v l) (hl : l ≠ []) : ∃ g c, v = .slice (Option.some ⟨g, 0, none⟩) l.length c ∧ l.length ≤ c ∧ c ≤ maxLen ∧ base ≤ g ∧ g < w.heap.size ∧ ∀ o, w.frozen? ⟨g, o, none⟩ = false := by
  rcases h.1.2 with ⟨_, h0⟩ | ⟨g, cap, cur, rfl, hb, hg, h1, h2, _⟩
  · exact absurd (List.eq_nil_of_length_eq_zero h0) hl
  · refine ⟨g, cap, rfl, h1, h2, hb, (Array.getElem?_eq_some_iff.1 hg).1, fun o => ?_⟩
    exact Blk.frozen (c := cur) (t := e) hg o
theorem Sl.cellsAt {α : Type} {F : Nat → Prop} {w : World} {sz : Nat} {enc : α → List Value} {b off n c : Nat} {l : List α} (h : Sl F w sz enc (.slice (Option.some ⟨b, off, none⟩) n c) l) {j : Nat} {x : α} (hx : l[j]? = Option.some x) : ∀ i u, (enc x)[i]? = Option.some u → w.cell? ⟨b, off + j * sz + i, none⟩ = Option.some u := by
  obtain ⟨a', c', e1, _, _, _, e5⟩ := h
  injection e1 with e1 _ _
  subst e1
  rcases e5 with rfl | ⟨b', off', e, _, _, hc⟩
  · simp at hx
  · injection e with e
    injection e with e1 e2
    subst e1 e2
    exact hc j x hx
theorem Tryz.levSize : (Tryz.prog.info? 154).map (·.size) = some 2 := by kernel_rfl
/-- a level, and pages. -/
def LevRes (w : World) (pb : Nat) (r : List (Nat × ByteArray) × List PageA) (e : Ending) (w' : World) : Prop :=
  ∃ vi vf pv xs, e = .returned (.tuple #[.agg #[vi, vf], pv]) ∧ Own NoF w' w.heap.size 3 1 encN vi (r.1.map (·.1)) ∧ Own NoF w' w.heap.size 9 1 encS vf (r.1.map (·.2)) ∧ PgsR w' pb pv xs ∧ xs.map (·.1) = r.2
section
variable {F : Nat → Prop} {w w' wr w2 : World}
/-- the inner loop of leaves: a leaf's entries. -/
structure LfS (w wr : World) (N : Nat) (is : List Nat) (fs : List ByteArray) (ys : List PgE) (es : List EntryA) (vi vf ve pv : Value) : Prop where
  lv : LvH NoF w wr w.heap.size (w.heap.size + 1) w.heap.size is fs ys vi vf vi vf pv
  nd : Blk wr N #[.bool true, ve, .slice none 0 0, .slice none 0 0] 134
  hN : w.heap.size + 1 < N
  row : Own NoF wr (w.heap.size + 2) 131 4 encE ve es
theorem LfS.ext {w wr w2 : World} {N : Nat} {is : List Nat} {fs : List ByteArray} {ys : List PgE} {es : List EntryA} {vi vf ve pv : Value} (h : LfS w wr N is fs ys es vi vf ve pv) (m : Ext wr w2) : LfS w w2 N is fs ys es vi vf ve pv := ⟨h.lv.ext m, h.nd.ext m, h.hN, h.row.ext m⟩
/-- the leaf's entries grow: the node's field is behind. -/
theorem LfS.rowE {w wr w2 : World} {N : Nat} {is : List Nat} {fs : List ByteArray} {ys : List PgE} {es es' : List EntryA} {vi vf ve ve' pv : Value} (h : LfS w wr N is fs ys es vi vf ve pv) (m : Mods (fun k => ve.ownBlock = some k) wr w2) (o : Own NoF w2 (w.heap.size + 2) 131 4 encE ve' es') :
    Blk w2 N #[.bool true, ve, .slice none 0 0, .slice none 0 0] 134 ∧ LfS w (w2.setCell ⟨N, 1, none⟩ ve') N is fs ys es' vi vf ve' pv := by
  have hl := h.lv.rowE h.row (by omega) m
  have hn : Blk w2 N #[.bool true, ve, .slice none 0 0, .slice none 0 0] 134 := h.nd.mods m (fun e => Own.notB h.row h.nd (by decide) _ e rfl)
  have m2 : Mods (fun k => k = N) w2 (w2.setCell ⟨N, 1, none⟩ ve') := Mods.at _ _ _ _ _ rfl
  exact ⟨hn, hl.blk hn m2 h.hN (by decide) (by decide) (by decide) (by decide), by simpa using hn.set 1 ve', h.hN, o.mods m2 (fun g hg e => Own.notB o hn (by decide) g hg e)⟩
theorem LfS.pages {w wr w2 : World} {N : Nat} {is : List Nat} {fs : List ByteArray} {ys ys' : List PgE} {es : List EntryA} {vi vf ve pv pv' : Value} (h : LfS w wr N is fs ys es vi vf ve pv) (m : Mods (fun k => pv.ownBlock = some k) wr w2) (g : PgsR w2 w.heap.size pv' ys') (hat : ∀ g, pv'.ownBlock = some g → pv.ownBlock = some g ∨ w.heap.size ≤ g) : LfS w w2 N is fs ys' es vi vf ve pv' :=
  ⟨h.lv.pages m g hat, h.nd.mods m (fun e => Own.notB h.lv.pg.row h.nd (by decide) _ e rfl), h.hN, h.row.mods m (fun g hg e => h.row.far h.lv.pg.row (by decide) g hg e)⟩
set_option maxRecDepth 100000 in
set_option maxHeartbeats 4000000 in
theorem leaves_any (l : List PairS) (lv : Value) (hl : Sl F w 2 encP lv l) (hk : PairsOk l) (hlen : l.length ≤ 1000) (many : Nat) (hm : 1 ≤ many) (hm2 : many ≤ 1000) (gen : Nat) (hg : gen < 18446744073709551616) :
    Calls Tryz.prog 76 #[lv, .int .i64 (many : Int), .int .u64 (gen : Int), .int .i64 256] w fun e w' => LevRes w w.heap.size (leavesA gen many l.length l 2) e w' ∧ Ext w w' := by
  obtain ⟨la, lc, rfl, h1, h2, h3, hll⟩ := hl
  unfold maxLen at h2
  have HLL := Lib.hid hll
  have HK := Lib.hid hk
  clear hll hk
  go_enter Tryz.func76, Tryz.ntmps76
  go_wp2_with fail
  have HV0 : Hid (LvH NoF w (((w.alloc (.cells #[.slice none 0 0, .slice none 0 0] 154)).alloc (.cells #[.slice none 0 0, .slice none 0 0] 154)).alloc (.cells #[] 91)) w.heap.size (w.heap.size + 1) w.heap.size [] [] [] (.slice none 0 0) (.slice none 0 0) (.slice none 0 0) (.slice none 0 0) (.slice (some ⟨w.heap.size + 1 + 1, 0, none⟩) 0 0)) := Lib.hid
    ⟨(((Mods.refl _ w).alloc _).alloc _).alloc _, Nat.le_refl _, Nat.lt_succ_self _, ((Blk.new w _ _).alloc _).alloc _, Blk.alloc (heap_at (by simp)) _, Own.nil _ _ _ _ _ _, Own.nil _ _ _ _ _ _,
      ⟨Own.made (l := ([] : List PgE)) (cur := #[]) (cap := 0) (heap_at (by simp)) (by omega) (fun f => f) (Nat.le_refl _) (by simp [maxLen]) (by simp) (by simp) (fun _ => rfl), fun x hx => by simp at hx⟩, fun g hg => by simp [Value.ownBlock] at hg; omega⟩
  go_loopg [11, 12] l.length (fun m v11 v12 wr => ∃ (i f : Nat) (lv0 : List (Nat × ByteArray)) (xs : List PgE) (vi vf : Value), l.length ≤ i + m ∧ i ≤ l.length + 1000 ∧ v12 = .int .i64 (i : Int) ∧ xs.length ≤ 20 * i ∧ xs.length ≤ 20000 ∧ Hid (LvH NoF w wr w.heap.size (w.heap.size + 1) w.heap.size (lv0.map (·.1)) (lv0.map (·.2)) xs vi vf vi vf v11) ∧
    lv0.length ≤ i ∧ Hid (lv0 ++ (leavesA gen many f (l.drop i) (2 + xs.length)).1 = (leavesA gen many l.length l 2).1 ∧ xs.map (·.1) ++ (leavesA gen many f (l.drop i) (2 + xs.length)).2 = (leavesA gen many l.length l 2).2 ∧ (l.drop i).length ≤ f))
  case atStart => exact ⟨0, l.length, [], [], _, _, by omega, by omega, rfl, by simp, by simp, HV0, by simp, Lib.hid ⟨rfl, rfl, by simp⟩⟩
  case round =>
    obtain ⟨i, f, lv0, xs, vi, vf, him, hi1000, rfl, hx20, hx2, HV, hlvi, HQ⟩ := hrel
    by_cases hlt : i < l.length
    · obtain ⟨c, hc⟩ : ∃ c, c = (l.drop i).take many := ⟨_, rfl⟩
      have hcl : c.length = min many (l.length - i) := by rw [hc, List.length_take, List.length_drop]
      have hc0 : 0 < c.length := by omega
      have hcat : ∀ j, j < c.length → l[i + j]? = c[j]? := fun j hj => by
        rw [hc, List.getElem?_take, if_pos (by omega), List.getElem?_drop]
      have HC := Lib.hid hc
      have HCAT := Lib.hid hcat
      obtain ⟨N, hN⟩ : ∃ N, N = wr.heap.size := ⟨_, rfl⟩
      obtain ⟨id, hid⟩ : ∃ id, id = 2 + xs.length := ⟨_, rfl⟩
      obtain ⟨pa, pc, rfl, hp1, hp2⟩ := HV.out.pg.row.form
      unfold maxLen at hp2
      have hrl := HV.out.lev.lt
      clear hc hcat
      go_wp2_with (at_builtin; refine wpl_app2 Tryz.elPg encPg_ok rfl _ _ rfl w.heap.size (.slice pa xs.length pc) _ xs [((⟨3, (id : Int), gen, []⟩, (none, 0, 0)) : PgE)] rfl rfl ((HV.out.pg.row.ext ((Mods.refl _ wr).alloc _)).ext ((Mods.refl _ _).alloc _)) (Sl.one (F := NoF) (by rw [hid]; exact heap_at (by simp)) (fun f => f)) (by simp only [List.length_cons, List.length_nil]; omega) (by simp; omega) (fun f => f) ?_; intro a4 c4 w4 hO4 hm4 hat4)
      have HL4 : Hid (LfS w w4 N (lv0.map (·.1)) (lv0.map (·.2)) (xs ++ [((⟨3, (id : Int), gen, []⟩, (none, 0, 0)) : PgE)]) [] vi vf (.slice none 0 0) (.slice a4 (xs.length + 1) c4)) := Lib.hid (by
        have hV2 := (HV.out.ext ((Mods.refl _ wr).alloc (.cells #[.bool true, .slice none 0 0, .slice none 0 0, .slice none 0 0] 134))).ext ((Mods.refl _ _).alloc (.cells #[.int .i64 3, .int .i64 (2 + (xs.length : Int)), .int .u64 (gen : Int), .slice none 0 0] 91))
        have hV4 := hV2.pages hm4 (hV2.pg.app hm4 hO4 (fun y hy => by rw [List.mem_singleton.1 hy]; exact Own.nil _ _ _ _ _ _)) (fun g hg => by
          rcases hat4 with e | e
          · exact .inl (e ▸ hg)
          · rw [e] at hg; injection hg with hg; have := hV2.mods.size; right; omega)
        refine ⟨hV4, ?_, by omega, Own.nil _ _ _ _ _ _⟩
        have hb := ((Blk.new wr #[.bool true, .slice none 0 0, .slice none 0 0, .slice none 0 0] 134).alloc (.cells #[.int .i64 3, .int .i64 (2 + (xs.length : Int)), .int .u64 (gen : Int), .slice none 0 0] 91)).mods hm4 (fun e => Own.notB hV2.pg.row ((Blk.new wr #[.bool true, .slice none 0 0, .slice none 0 0, .slice none 0 0] 134).alloc (.cells #[.int .i64 3, .int .i64 (2 + (xs.length : Int)), .int .u64 (gen : Int), .slice none 0 0] 91)) (by decide) _ e rfl)
        rw [hN]; exact hb)
      have HIDD := Lib.hid hid
      clear hO4 hm4 hat4
      obtain ⟨wo, rfl⟩ : ∃ wo : World, wo = wr := ⟨_, rfl⟩
      obtain ⟨go, rfl⟩ : ∃ go : Nat, go = gk := ⟨_, rfl⟩
      subst hN
      go_loopg [11, 15] c.length (fun m v11 v15 wr => ∃ (j : Nat) (ys : List PgE) (es : List EntryA) (ve : Value), j + m = c.length ∧ v15 = .int .i64 ((i + j : Nat) : Int) ∧ ys.length ≤ xs.length + 1 + 18 * j ∧ Hid (LfS w wr wo.heap.size (lv0.map (·.1)) (lv0.map (·.2)) ys es vi vf ve v11) ∧
        Hid (es = (chunkA gen (c.take j) (id + 1)).1 ∧ ys.map (·.1) = xs.map (·.1) ++ ⟨3, (id : Int), gen, []⟩ :: (chunkA gen (c.take j) (id + 1)).2))
      case atStart => exact ⟨0, _, [], _, by omega, rfl, by simp, HL4, Lib.hid ⟨by simp [chunkA], by simp [chunkA]⟩⟩
      case round =>
        obtain ⟨j, ys, es, ve, hjm, rfl, hys, HS, HE⟩ := hrel
        by_cases hjt : j < c.length
        · have hkl : i + j < l.length := by omega
          have hlx : l[i + j]? = some l[i + j] := List.getElem?_eq_getElem hkl
          have hcx : c[j]? = some l[i + j] := by rw [← HCAT.out j hjt]; exact hlx
          obtain ⟨lb, loff, rfl, _, _, hcc⟩ := Sl.at HLL.out HS.out.lv.mods (fun _ _ f => f.elim) (i + j) hkl
          obtain ⟨x, hx⟩ : ∃ x, x = l[i + j] := ⟨_, rfl⟩
          rw [← hx] at hlx hcx
          have hkx := HK.out x (List.mem_of_getElem? hlx)
          obtain ⟨xk, xv⟩ := x
          have d0 := hcc 0 (.string xk) (by rw [← hx]; rfl)
          simp only [Nat.add_zero] at d0
          have d1 := hcc 1 (.string xv) (by rw [← hx]; rfl)
          have HCX := Lib.hid hcx
          have HKX := Lib.hid hkx
          have hel : es.length = j := by rw [HE.out.1, chunkA_len, List.length_take]; omega
          have hyl : ys.length = xs.length + 1 + (chunkA gen (c.take j) (id + 1)).2.length := by
            have := congrArg List.length HE.out.2
            simp only [List.length_map, List.length_append, List.length_cons] at this
            omega
          have HYL := Lib.hid hyl
          have HEL := Lib.hid hel
          have hesb : es.length ≤ 1000 := by omega
          clear hel
          obtain ⟨pa2, pc2, rfl, hq1, hq2⟩ := HS.out.lv.pg.row.form
          unfold maxLen at hq2
          have i0 : (0 : Int) ≤ (i : Int) + (j : Int) := by omega
          have i1 : (i : Int) + (j : Int) < (l.length : Int) := by omega
          have i2 : (i : Int) + (j : Int) < (i : Int) + (many : Int) := by omega
          clear hcc hlx hcx hx hyl hkx
          go_wp2_with fail
          rw [show 2 + (ys.length : Int) = ((2 + ys.length : Nat) : Int) by omega]
          refine (chained_any (xk, xv) HKX.out.2 (2 + ys.length) gen (by omega) (by omega) hg).mono ?_
          rintro e w5 ⟨pv5, zs, rfl, hPg5, hz5, hm5⟩
          obtain ⟨pa5, pc5, rfl, hr1, hr2⟩ := hPg5.row.form
          unfold maxLen at hr2
          have HENT : Hid (entryA (xk, xv) (id + 1 + (chunkA gen (c.take j) (id + 1)).2.length) = entryA (xk, xv) (2 + ys.length)) := Lib.hid (by rw [HYL.out, hid]; congr 1; omega)
          generalize hen : entryA (xk, xv) (2 + ys.length) = en at *
          obtain ⟨ek, ev, ech, esz⟩ := en
          have HEN := Lib.hid hen
          have HS5 : Hid (LfS w (w5.alloc (.cells #[.string ek, .string ev, .int .i64 ech, .int .i64 esz] 131)) wo.heap.size (lv0.map (·.1)) (lv0.map (·.2)) ys es vi vf ve (.slice pa2 ys.length pc2)) := Lib.hid
            (HS.out.ext (hm5.trans ((Mods.refl _ w5).alloc _)))
          have HP5 := Lib.hid (hPg5.ext ((Mods.refl _ w5).alloc (.cells #[.string ek, .string ev, .int .i64 ech, .int .i64 esz] 131)))
          have hx0 := Blk.new w5 #[.string ek, .string ev, .int .i64 ech, .int .i64 esz] 131
          have x0 := hx0.cell (o := 0) (v := .string ek) rfl
          have x1 := hx0.cell (o := 1) (v := .string ev) rfl
          have x2 := hx0.cell (o := 2) (v := .int .i64 ech) rfl
          have x3 := hx0.cell (o := 3) (v := .int .i64 esz) rfl
          have n1 := HS5.out.nd.cell (o := 1) (v := ve) rfl
          have HZ5 := Lib.hid hz5
          have hw5 := hm5.size
          have hrl5 := HS.out.lv.lev.lt
          have hzl : zs.length ≤ 18 := by have := congrArg List.length hz5; rw [List.length_map] at this; have h9 := chPages_few gen (x := (xk, xv)) HKX.out.2 (2 + ys.length); omega
          clear hPg5 hz5 hm5 hx0 hen
          go_wp2_with (first
            | (at_builtin; refine wpl_app2 Tryz.elE encE_ok rfl _ _ rfl (w.heap.size + 2) ve _ es [⟨ek, ev, ech, esz⟩] rfl rfl (HS5.out.row.ext ((Mods.refl _ _).alloc _)) (Sl.one (F := NoF) (heap_at (by simp)) (fun f => f)) (by simp only [List.length_cons, List.length_nil]; omega) (by simp; omega) (fun f => f) ?_; simp only [List.length_cons, List.length_nil, Nat.zero_add]; intro a6 c6 w6 hO6 hm6 hat6; have hS6 := (HS5.out.ext ((Mods.refl _ _).alloc (.cells #[.string ek, .string ev, .int .i64 ech, .int .i64 esz] 131))).rowE hm6 hO6; have hP6 := ((HP5.out.ext ((Mods.refl _ _).alloc (.cells #[.string ek, .string ev, .int .i64 ech, .int .i64 esz] 131))).other (HS5.out.row.ext ((Mods.refl _ _).alloc (.cells #[.string ek, .string ev, .int .i64 ech, .int .i64 esz] 131))) hm6 (by decide) (by decide)).blk hS6.1 (Mods.at (fun k => k = wo.heap.size) w6 wo.heap.size 1 (.slice a6 (es.length + 1) c6) rfl) (by decide) (by decide); have z1 := hS6.1.cell (o := 1) (v := ve) rfl; have zf := hS6.1.frozen 1; have hw6 := hS6.2.lv.lev.lt)
            | (at_builtin; refine wpl_app2 Tryz.elPg encPg_ok rfl _ _ rfl w.heap.size (.slice pa2 ys.length pc2) (.slice pa5 zs.length pc5) ys zs rfl rfl hS6.2.lv.pg.row (hP6.row.sl encPg_ok.len (by omega)) (by omega) (by omega) (fun f => f) ?_; intro a7 c7 w7 hO7 hm7 hat7))
          have HS7 : Hid (LfS w w7 wo.heap.size (lv0.map (·.1)) (lv0.map (·.2)) (ys ++ zs) (es ++ [⟨ek, ev, ech, esz⟩]) vi vf (.slice a6 (es.length + 1) c6) (.slice a7 (ys.length + zs.length) c7)) := Lib.hid
            (hS6.2.pages hm7 (hS6.2.lv.pg.app hm7 hO7 (fun y hy => (hP6.body y hy).rebase (by omega))) (fun g hg => by
              rcases hat7 with e | e
              · exact .inl (e ▸ hg)
              · rw [e] at hg; injection hg with hg; right; omega))
          have HE7 : Hid (es ++ [⟨ek, ev, ech, esz⟩] = (chunkA gen (c.take (j + 1)) (id + 1)).1 ∧ (ys ++ zs).map (·.1) = xs.map (·.1) ++ ⟨3, (id : Int), gen, []⟩ :: (chunkA gen (c.take (j + 1)) (id + 1)).2) := Lib.hid (by
            have h1 := chunkA_take gen c j (xk, xv) (id + 1) HCX.out
            rw [h1]
            refine ⟨?_, ?_⟩
            · simp only
              rw [HENT.out, HE.out.1]
            · simp only
              rw [List.map_append, HE.out.2, HZ5.out]
              simp only [List.append_assoc, List.cons_append]
              congr 4
              rw [HYL.out, hid]; omega)
          clear hS6 hP6 hO6 hm6 hat6 hO7 hm7 hat7 z1 zf x0 x1 x2 x3 n1 d0 d1
          go_wp2_with fail
          go_roundg (gk - 1)
          case measure => omega
          case rel => exact ⟨j + 1, ys ++ zs, es ++ [⟨ek, ev, ech, esz⟩], _, by omega, by go_num, by rw [List.length_append]; omega, by have := HS7.out; first | exact Lib.hid this | (rw [← List.length_append] at this; exact Lib.hid this), HE7⟩
        · have hje : j = c.length := by omega
          have hEc := HE.out
          rw [hje, List.take_length] at hEc
          have HEc := Lib.hid hEc
          clear hEc
          have hyn : ys ≠ [] := fun e => by have := HEc.out.2; rw [e] at this; simp at this
          obtain ⟨g7, c7, rfl, hg1, hg2, hg3, hg4, hg5⟩ := HS.out.lv.pg.row.some hyn
          unfold maxLen at hg2
          obtain ⟨ea, ec, rfl, hea1, hea2⟩ := HS.out.row.form
          have hesl : es.length ≤ 1000 := by rw [HEc.out.1, chunkA_len]; omega
          have hLN : (⟨true, es, [], []⟩ : NodeA) = leafN gen c id := by rw [HEc.out.1]; rfl
          have hck : PairsOk c := fun x hx => HK.out x (by rw [HC.out] at hx; exact List.mem_of_mem_drop (List.mem_of_mem_take hx))
          obtain ⟨hok, hbl⟩ := leafN_ok gen hck (by omega) id (by omega)
          rw [← hLN] at hok hbl
          have HLN := Lib.hid hLN
          have HBY := Lib.hid (bytes07_any (F := NoF) (w := wr) ⟨true, es, [], []⟩ (.slice ea es.length ec) (.slice none 0 0) (.slice none 0 0) (HS.out.row.sl encE_ok.len (by omega)) (Sl.nil _ _ _ _) (Sl.nil _ _ _ _) hok hbl)
          have hyx : ys.length = xs.length + 1 + (chunkA gen c (id + 1)).2.length := by
            have := congrArg List.length HEc.out.2
            simp only [List.length_map, List.length_append, List.length_cons] at this
            omega
          have hlt7 : xs.length < ys.length := by omega
          have HYX := Lib.hid hyx
          have n0 := HS.out.nd.cell (o := 0) (v := .bool true) rfl
          have n1 := HS.out.nd.cell (o := 1) (v := .slice ea es.length ec) rfl
          have n2 := HS.out.nd.cell (o := 2) (v := .slice none 0 0) rfl
          have n3 := HS.out.nd.cell (o := 3) (v := .slice none 0 0) rfl
          have hcase : ((i : Int) + (j : Int) < (l.length : Int) ∧ ¬ ((i : Int) + (j : Int) < (i : Int) + (many : Int))) ∨ ¬ ((i : Int) + (j : Int) < (l.length : Int)) := by omega
          have HJE := Lib.hid hje
          clear hLN hck hok hbl hyn hyx hje
          rcases hcase with ⟨q1, q2⟩ | q1
          all_goals
            go_wp2_with fail
            refine (HBY.out).mono ?_
            rintro e w8 ⟨v8, rfl, hO8, hm8⟩
            obtain ⟨ba, bc, rfl, _, _⟩ := hO8.form
            obtain ⟨bz, hbz⟩ : ∃ bz, bz = (bytesN ⟨true, es, [], []⟩).length := ⟨_, rfl⟩
            rw [← hbz] at hO8 ⊢
            have HS8 := Lib.hid (HS.out.ext hm8)
            obtain ⟨y0, hy0⟩ : ∃ y0, ys[xs.length]? = some y0 := ⟨_, List.getElem?_eq_getElem hlt7⟩
            have hy1 : y0.1 = ⟨3, (id : Int), gen, []⟩ := by
              have h9 : (ys.map (·.1))[xs.length]? = some y0.1 := by rw [List.getElem?_map, hy0]; rfl
              rw [HEc.out.2, List.getElem?_append_right (by simp)] at h9
              simpa using h9.symm
            have hcl3 : w8.cell? ⟨g7, 0 + xs.length * 4 + 3, none⟩ = some (svE y0) := (HS8.out.lv.pg.row.sl encPg_ok.len (by omega)).cellsAt hy0 3 _ rfl
            rw [Nat.zero_add] at hcl3
            have hfz8 := fun o => (hm8.frozen hg4 (fun f => f) (o := o)).trans (hg5 o)
            have HO8 := Lib.hid (hO8.rebase (base' := w.heap.size) (by omega))
            have HY0 := Lib.hid hy0
            have HY1 := Lib.hid hy1
            have hm9 : Mods (fun k => (Value.slice (some ⟨g7, 0, none⟩) ys.length c7).ownBlock = some k) w8 (w8.setCell ⟨g7, xs.length * 4 + 3, none⟩ (.slice ba bz bc)) := Mods.at _ _ _ _ _ rfl
            have HPG9 : Hid (PgsR (w8.setCell ⟨g7, xs.length * 4 + 3, none⟩ (.slice ba bz bc)) w.heap.size (.slice (some ⟨g7, 0, none⟩) ys.length c7) (ys.set xs.length ((⟨3, (id : Int), gen, bytesN (leafN gen c id)⟩, (ba, bz, bc)) : PgE))) := Lib.hid ⟨
              HS8.out.lv.pg.row.set encPg_ok.len hy0 (by omega) (by
                unfold encPg
                rw [hy1]
                rfl), fun y hy => by
                  rcases List.mem_or_eq_of_mem_set hy with hy | rfl
                  · exact (HS8.out.lv.pg.body y hy).mods hm9 (fun g hg e => (HS8.out.lv.pg.body y hy).far HS8.out.lv.pg.row (by decide) g hg e)
                  · have h9 := HO8.out
                    rw [HLN.out] at h9
                    exact h9.mods hm9 (fun g hg e => h9.far HS8.out.lv.pg.row (by decide) g hg e)⟩
            have HV9 := Lib.hid (HS8.out.lv.pages hm9 HPG9.out (fun g hg => .inl hg))
            have HYS9 : Hid ((ys.set xs.length ((⟨3, (id : Int), gen, bytesN (leafN gen c id)⟩, (ba, bz, bc)) : PgE)).map (·.1) = xs.map (·.1) ++ leafPages gen c id) := Lib.hid (by
              rw [List.map_set, HEc.out.2, List.set_append_right _ _ (by simp)]
              simp [leafPages, leafN])
            have HZS : Hid ((ys.set xs.length ((⟨3, (id : Int), gen, bytesN (leafN gen c id)⟩, (ba, bz, bc)) : PgE)).length = ys.length) := Lib.hid List.length_set
            generalize hzs : ys.set xs.length ((⟨3, (id : Int), gen, bytesN (leafN gen c id)⟩, (ba, bz, bc)) : PgE) = zs at *
            have HBZ := Lib.hid hbz
            clear hO8 hm8 hy0 hy1 hm9 hbz hzs n0 n1 n2 n3
            have l0 := HV9.out.lev.cell (o := 0) (v := vi) rfl
            have hil : (lv0.map (·.1)).length = lv0.length := List.length_map _
            have hlv0 : lv0.length ≤ 100000 := by omega
            have hidI : 2 + (xs.length : Int) = ((id : Nat) : Int) := by omega
            have HIDI := Lib.hid hidI
            have hb9 := HV9.out.lev.lt
            clear hidI hil
            go_wp2_with (at_builtin; refine wpl_app2 Tryz.elI encN_ok rfl _ _ rfl (w.heap.size + 1 + 1) vi _ (lv0.map (·.1)) [id] rfl rfl (HV9.out.ids.ext ((Mods.refl _ _).alloc _)) (Sl.oneN (F := NoF) (heap_at (by simp)) HIDI.out (fun f => f)) (by simp only [List.length_map, List.length_cons, List.length_nil]; omega) (by simp at hb9 ⊢; omega) (fun f => f) ?_; simp only [List.length_map, List.length_cons, List.length_nil, Nat.zero_add]; intro a10 c10 w10 hO10 hm10 hat10; have hV10 := (HV9.out.ext ((Mods.refl _ _).alloc (.cells #[.int .i64 (2 + (xs.length : Int))] 3))).appI hm10 hO10; have z0 := hV10.lev.cell (o := 0) (v := vi) rfl; have zf := hV10.lev.frozen 0)
            have HV10 : Hid (LvH NoF w (w10.setCell ⟨w.heap.size + 1, 0, none⟩ (.slice a10 (lv0.length + 1) c10)) w.heap.size (w.heap.size + 1) w.heap.size (lv0.map (·.1) ++ [id]) (lv0.map (·.2)) zs (.slice a10 (lv0.length + 1) c10) vf (.slice a10 (lv0.length + 1) c10) vf (.slice (some ⟨g7, 0, none⟩) ys.length c7)) := Lib.hid
              (hV10.put 0 (.slice a10 (lv0.length + 1) c10) rfl)
            obtain ⟨lb, loff, rfl, _, _, hcc⟩ := Sl.at HLL.out HV10.out.mods (fun _ _ f => f.elim) i hlt
            obtain ⟨x0, hx0⟩ : ∃ x0, x0 = l[i] := ⟨_, rfl⟩
            have d0 := hcc 0 (.string x0.1) (by rw [← hx0]; rfl)
            simp only [Nat.add_zero] at d0
            have HX0 : Hid (l[i]? = some x0) := Lib.hid (by rw [hx0]; exact List.getElem?_eq_getElem hlt)
            have l1 := HV10.out.lev.cell (o := 1) (v := vf) rfl
            have d0b := fun o => cellE ((Mods.refl _ _).alloc o) d0
            have l1b := fun o => cellE ((Mods.refl _ _).alloc o) l1
            have hb10 := HV10.out.lev.lt
            have i0 : (0 : Int) ≤ (i : Int) := by omega
            have i1 : (i : Int) < (l.length : Int) := by omega
            have HDR : Hid (∃ f', (l.drop (i + many)).length ≤ f' ∧ (lv0 ++ [(id, x0.1)]) ++ (leavesA gen many f' (l.drop (i + many)) (2 + zs.length)).1 = (leavesA gen many l.length l 2).1 ∧ zs.map (·.1) ++ (leavesA gen many f' (l.drop (i + many)) (2 + zs.length)).2 = (leavesA gen many l.length l 2).2) := Lib.hid (by
              obtain ⟨q1, q2, q3⟩ := HQ.out
              have hdr : l.drop i = x0 :: l.drop (i + 1) := by
                obtain ⟨h8, h9⟩ := List.getElem?_eq_some_iff.1 HX0.out
                rw [← h9]; exact List.drop_eq_getElem_cons h8
              rw [List.length_drop] at q3
              obtain ⟨f', rfl⟩ : ∃ f', f = f' + 1 := ⟨f - 1, by omega⟩
              refine ⟨f', by rw [List.length_drop]; omega, ?_⟩
              have hst := leavesA_step gen many f' x0 (l.drop (i + 1)) (2 + xs.length)
              rw [← hdr, List.drop_drop, ← HC.out, ← hid] at hst
              have hlz : id + (leafPages gen c id).length = 2 + zs.length := by rw [leafPages_len, HZS.out, HYX.out, hid]; omega
              rw [hlz] at hst
              rw [← hid, hst] at q1 q2
              refine ⟨?_, ?_⟩
              · rw [← q1]; simp
              · rw [← q2, HYS9.out]; simp)
            clear hV10 hO10 hm10 hat10 z0 zf l0 hcc hx0
            go_wp2_with fail
            go_region_law
              (first
                | (refine step_app2 Tryz.elS encS_ok (by rfl) _ _ (by rfl) (w.heap.size + 1 + 1) vf _ (lv0.map (·.2)) [x0.1] (by rfl) (by rfl) (HV10.out.drew.fst.ext ((Mods.refl _ _).alloc _)) (Sl.one (F := NoF) (heap_at (by simp)) (fun f => f)) (by simp only [List.length_map, List.length_cons, List.length_nil]; omega) (by simp at hb10 ⊢; omega) (fun f => f) ?_; simp only [List.length_map, List.length_cons, List.length_nil, Nat.zero_add]; intro a11 c11 w11 hO11 hm11 hat11; have hV11 := (HV10.out.drew.ext ((Mods.refl _ _).alloc (.cells #[.string x0.1] 9))).appF hm11 hO11; have z1 := hV11.lev.cell (o := 1) (v := vf) rfl; have zf := hV11.lev.frozen 1)
                | fail)
            all_goals
              have HV12 : Hid (LvH NoF w (w11.setCell ⟨w.heap.size + 1, 1, none⟩ (.slice a11 (lv0.length + 1) c11)) w.heap.size (w.heap.size + 1) w.heap.size ((lv0 ++ [(id, x0.1)]).map (·.1)) ((lv0 ++ [(id, x0.1)]).map (·.2)) zs (.slice a10 (lv0.length + 1) c10) (.slice a11 (lv0.length + 1) c11) (.slice a10 (lv0.length + 1) c10) (.slice a11 (lv0.length + 1) c11) (.slice (some ⟨g7, 0, none⟩) ys.length c7)) := Lib.hid (by
                rw [List.map_append, List.map_append]
                exact hV11.put 1 (.slice a11 (lv0.length + 1) c11) rfl)
              clear hV11 hO11 hm11 hat11 z1 zf d0 d0b l1 l1b
              have hjc := HJE.out
              have hzs := HZS.out
              have hj1 : 1 ≤ j := by omega
              have hjl : i + j ≤ l.length := by omega
              have hz20 : zs.length ≤ 20 * (i + many) := by omega
              have hz2 : zs.length ≤ 20000 := by omega
              have HB := Lib.hid (And.intro hz20 hz2)
              clear hjc hzs hz20 hz2
              go_wp2_with fail
              go_roundg (go - 1)
              case measure => omega
              case rel =>
                obtain ⟨f', e1, e2, e3⟩ := HDR.out
                exact ⟨i + many, f', lv0 ++ [(id, x0.1)], zs, _, _, by omega, by omega, by go_num, HB.out.1, HB.out.2, HV12, by rw [List.length_append, List.length_cons, List.length_nil]; omega, Lib.hid ⟨e2, e3, e1⟩⟩
    · have hdr : l.drop i = [] := List.drop_eq_nil_of_le (by omega)
      obtain ⟨q1, q2, q3⟩ := HQ.out
      rw [hdr, leavesA_nil] at q1 q2
      simp only [List.append_nil] at q1 q2
      have HQ1 := Lib.hid q1
      have HQ2 := Lib.hid q2
      obtain ⟨pi, pic, rfl, _, _⟩ := HV.out.ids.form
      obtain ⟨pf, pfc, rfl, _, _⟩ := HV.out.fst.form
      obtain ⟨pp, ppc, rfl, _, _⟩ := HV.out.pg.row.form
      have l0 := HV.out.lev.cell (o := 0) (v := .slice pi (lv0.map (·.1)).length pic) rfl
      have l1 := HV.out.lev.cell (o := 1) (v := .slice pf (lv0.map (·.2)).length pfc) rfl
      have r0 := HV.out.res.cell (o := 0) (v := .slice none 0 0) rfl
      have r1 := HV.out.res.cell (o := 1) (v := .slice none 0 0) rfl
      have rf := HV.out.res.frozen
      have HRB : Hid (Blk ((wr.setCell ⟨w.heap.size, 0, none⟩ (.slice pi (lv0.map (·.1)).length pic)).setCell ⟨w.heap.size, 1, none⟩ (.slice pf (lv0.map (·.2)).length pfc)) w.heap.size #[.slice pi (lv0.map (·.1)).length pic, .slice pf (lv0.map (·.2)).length pfc] 154) := Lib.hid (by simpa using (HV.out.res.set 0 (.slice pi (lv0.map (·.1)).length pic)).set 1 (.slice pf (lv0.map (·.2)).length pfc))
      have HMR : Hid (Mods (fun k => k = w.heap.size) wr ((wr.setCell ⟨w.heap.size, 0, none⟩ (.slice pi (lv0.map (·.1)).length pic)).setCell ⟨w.heap.size, 1, none⟩ (.slice pf (lv0.map (·.2)).length pfc))) := Lib.hid ((Mods.at (fun k => k = w.heap.size) wr _ 0 _ rfl).trans (Mods.at (fun k => k = w.heap.size) _ _ 1 _ rfl))
      have HMX : Hid (Ext w ((wr.setCell ⟨w.heap.size, 0, none⟩ (.slice pi (lv0.map (·.1)).length pic)).setCell ⟨w.heap.size, 1, none⟩ (.slice pf (lv0.map (·.2)).length pfc))) := Lib.hid ((HV.out.mods.setCell (p := ⟨w.heap.size, 0, none⟩) (.inl (Nat.le_refl _)) _).setCell (p := ⟨w.heap.size, 1, none⟩) (.inl (Nat.le_refl _)) _)
      simp only [List.length_map] at l0 l1 HRB HMR HMX
      clear q1 q2 q3 hdr
      go_wp2_with fail
      refine bodyPost_ret (results_row_tmp rfl _ _ w.heap.size 154 #[.slice pi lv0.length pic, .slice pf lv0.length pfc] _ rfl HRB.out Tryz.underlying154 rfl Tryz.levSize) rfl ?_
      have hls : ∀ g, w.heap.size + 1 + 1 ≤ g → ¬ g = w.heap.size := fun g hg e => by omega
      have e1 := (HV.out.ids.mods HMR.out (fun g hg => hls g (HV.out.ids.lt g hg).1)).rebase (base' := w.heap.size) (by omega)
      have e2 := (HV.out.fst.mods HMR.out (fun g hg => hls g (HV.out.fst.lt g hg).1)).rebase (base' := w.heap.size) (by omega)
      rw [List.length_map] at e1 e2
      exact ⟨⟨_, _, _, xs, rfl, by rw [← HQ1.out]; exact e1, by rw [← HQ1.out]; exact e2, HV.out.pg.blk HV.out.res HMR.out (by decide) (by decide), HQ2.out⟩, HMX.out⟩
end
end Go.Proofs.YtepafbokbfcbgaaGreatDoor
namespace Go.Proofs.YtepafbokbfcbgaaGreatDoor
open Go.RowKit
attribute [local go_sem ↓] Go.wp_at_zero Go.wp_at_succ
theorem Tryz.mkP : (Tryz.prog.info? 98).map (fun i => (i.zero, i.size, i.bytes)) = some (some (.agg #[.string ⟨#[]⟩, .string ⟨#[]⟩]), 2, 32) := by kernel_rfl
theorem Tryz.elP : ElT Tryz.prog 22 98 (.agg #[.string ⟨#[]⟩, .string ⟨#[]⟩]) 2 32 := ⟨Tryz.underlying22, Tryz.mkP, rfl, by decide, by decide⟩
section
variable {F : Nat → Prop} {w w' wr w2 : World}
/-- a row of pairs of the call's own. -/
def PairsRes (w : World) (l : List PairS) (e : Ending) (w' : World) : Prop := ∃ v, e = .returned v ∧ Own NoF w' w.heap.size 98 2 encP v l ∧ Ext w w'
set_option maxRecDepth 100000 in
set_option maxHeartbeats 2000000 in
theorem with_any (l : List PairS) (lv : Value) (hl : Sl F w 2 encP lv l) (hlen : l.length ≤ 1000) (key value : ByteArray) (over : Bool) :
    Calls Tryz.prog 75 #[lv, .string key, .string value, .bool over] w (PairsRes w (withP key value over l)) := by
  obtain ⟨la, lc, rfl, h1, h2, h3, hll⟩ := hl
  unfold maxLen at h2
  have HLL := Lib.hid hll
  clear hll
  go_enter Tryz.func75, Tryz.ntmps75
  go_wp2_with fail
  have HO0 : Hid (Own NoF (w.alloc (.cells #[] 98)) w.heap.size 98 2 encP (.slice (some ⟨w.heap.size, 0, none⟩) 0 0) []) := Lib.hid
    (Own.made (l := ([] : List PairS)) (cur := #[]) (cap := 0) (heap_at (by simp)) (by omega) (fun f => f) (Nat.le_refl _) (by simp [maxLen]) (by simp) (by simp) (fun _ => rfl))
  have HM0 : Hid (Ext w (w.alloc (.cells #[] 98))) := Lib.hid ((Mods.refl _ w).alloc _)
  go_loopg [9, 10, 11] l.length (fun m v9 v10 v11 wr => ∃ (k : Nat) (dn : Bool) (out : List PairS), k + m = l.length ∧ v11 = .int .i64 (k : Int) ∧ v10 = .bool dn ∧ Hid (Own NoF wr w.heap.size 98 2 encP v9 out ∧ Ext w wr ∧ WthI key value over l k dn out))
  case atStart => exact ⟨0, false, [], by omega, rfl, rfl, Lib.hid ⟨HO0.out, HM0.out, WthI.start⟩⟩
  case round =>
    obtain ⟨k, dn, out, hkm, rfl, rfl, HS⟩ := hrel
    by_cases hlt : k < l.length
    · obtain ⟨b, off, rfl, hb, hF, hc⟩ := Sl.at HLL.out HS.out.2.1 (fun _ _ f => f.elim) k hlt
      obtain ⟨x, hx⟩ : ∃ x, l[k]? = some x := ⟨_, List.getElem?_eq_getElem hlt⟩
      have hx' : l[k] = x := by rw [List.getElem?_eq_getElem hlt] at hx; exact Option.some.inj hx
      rw [hx'] at hc
      have c0 := hc 0 _ rfl
      simp only [Nat.add_zero] at c0
      have c1 := hc 1 _ rfl
      have HX := Lib.hid hx
      have HOL : Hid (out.length ≤ k + 1) := Lib.hid (by have := HS.out.2.2.1; omega)
      clear hc hx hx'
      have i1 : (0 : Int) ≤ (k : Int) := by omega
      have i2 : (k : Int) < (l.length : Int) := by omega
      have HSZ : Hid (w.heap.size ≤ wr.heap.size) := Lib.hid HS.out.2.1.size
      cases dn with
      | true =>
        go_wp2_with (at_builtin; refine wpl_app2 Tryz.elP encP_ok rfl _ _ rfl w.heap.size _ _ out [x] rfl rfl (HS.out.1.ext ((Mods.refl _ _).alloc _)) (Sl.one (F := NoF) (heap_at (by simp)) (fun f => f)) (by have := HOL.out; simp only [List.length_cons, List.length_nil]; omega) (by have := hb; have := HSZ.out; simp; omega) (fun f => f) ?_; intro a4 c4 w4 hO4 hm4 hat4)
        have HS4 : Hid (Own NoF w4 w.heap.size 98 2 encP _ _ ∧ Ext w w4 ∧ WthI key value over l (k + 1) true (out ++ [x])) := Lib.hid ⟨hO4, (HS.out.2.1.alloc _).trans' hm4 (fun i hi e => by have := (HS.out.1.lt i e).1; omega), HS.out.2.2.pass HX.out⟩
        clear hO4 hm4 hat4
        go_wp2_with fail
        go_roundg (gk - 1)
        case measure => omega
        case rel => exact ⟨k + 1, true, _, by omega, by go_num, rfl, HS4⟩
      | false =>
        by_cases hl : ltS x.1 key = true
        · have e1 : Op.bytesLess x.1.toList key.toList = true := hl
          have HE := Lib.hid hl
          clear hl
          go_wp2_with (at_builtin; refine wpl_app2 Tryz.elP encP_ok rfl _ _ rfl w.heap.size _ _ out [x] rfl rfl (HS.out.1.ext ((Mods.refl _ _).alloc _)) (Sl.one (F := NoF) (heap_at (by simp)) (fun f => f)) (by have := HOL.out; simp only [List.length_cons, List.length_nil]; omega) (by have := hb; have := HSZ.out; simp; omega) (fun f => f) ?_; intro a4 c4 w4 hO4 hm4 hat4)
          have HS4 : Hid (Own NoF w4 w.heap.size 98 2 encP _ _ ∧ Ext w w4 ∧ WthI key value over l (k + 1) false (out ++ [x])) := Lib.hid ⟨hO4, (HS.out.2.1.alloc _).trans' hm4 (fun i hi e => by have := (HS.out.1.lt i e).1; omega), HS.out.2.2.lt HX.out HE.out⟩
          clear hO4 hm4 hat4
          go_wp2_with fail
          go_roundg (gk - 1)
          case measure => omega
          case rel => exact ⟨k + 1, false, _, by omega, by go_num, rfl, HS4⟩
        · have hl' : ltS x.1 key = false := by simpa using hl
          have e1 : Op.bytesLess x.1.toList key.toList = false := hl'
          have HE := Lib.hid hl'
          clear hl hl'
          by_cases hk : x.1 = key
          · obtain ⟨xk, xv⟩ := x
            simp only at hk
            subst hk
            cases over with
            | true =>
              go_wp2_with (at_builtin; refine wpl_app2 Tryz.elP encP_ok rfl _ _ rfl w.heap.size _ _ out [(xk, value)] rfl rfl (HS.out.1.ext ((Mods.refl _ _).alloc _)) (Sl.one (F := NoF) (heap_at (by simp)) (fun f => f)) (by have := HOL.out; simp only [List.length_cons, List.length_nil]; omega) (by have := HSZ.out; simp; omega) (fun f => f) ?_; intro a4 c4 w4 hO4 hm4 hat4; have y0 := cellM hm4 (cellE ((Mods.refl _ wr).alloc (.cells #[.string xk, .string value] 98)) c0) (fun e => by have := (HS.out.1.lt _ e).1; omega); have y1 := cellM hm4 (cellE ((Mods.refl _ wr).alloc (.cells #[.string xk, .string value] 98)) c1) (fun e => by have := (HS.out.1.lt _ e).1; omega))
              have HS4 : Hid (Own NoF w4 w.heap.size 98 2 encP _ _ ∧ Ext w w4 ∧ WthI xk value true l (k + 1) true (out ++ [(xk, value)])) := Lib.hid ⟨hO4, (HS.out.2.1.alloc _).trans' hm4 (fun i hi e => by have := (HS.out.1.lt i e).1; omega), HS.out.2.2.eqO HX.out rfl⟩
              clear hO4 hm4 hat4
              go_wp2_with fail
              go_roundg (gk - 1)
              case measure => omega
              case rel => exact ⟨k + 1, true, _, by omega, by go_num, rfl, HS4⟩
            | false =>
              go_wp2_with (at_builtin; refine wpl_app2 Tryz.elP encP_ok rfl _ _ rfl w.heap.size _ _ out [(xk, xv)] rfl rfl (HS.out.1.ext ((Mods.refl _ _).alloc _)) (Sl.one (F := NoF) (heap_at (by simp)) (fun f => f)) (by have := HOL.out; simp only [List.length_cons, List.length_nil]; omega) (by have := HSZ.out; simp; omega) (fun f => f) ?_; intro a4 c4 w4 hO4 hm4 hat4)
              have HS4 : Hid (Own NoF w4 w.heap.size 98 2 encP _ _ ∧ Ext w w4 ∧ WthI xk value false l (k + 1) true (out ++ [(xk, xv)])) := Lib.hid ⟨hO4, (HS.out.2.1.alloc _).trans' hm4 (fun i hi e => by have := (HS.out.1.lt i e).1; omega), HS.out.2.2.eqN HX.out rfl⟩
              clear hO4 hm4 hat4
              go_wp2_with fail
              go_roundg (gk - 1)
              case measure => omega
              case rel => exact ⟨k + 1, true, _, by omega, by go_num, rfl, HS4⟩
          · have hk2 : ltS key x.1 = true := (not_ltS HE.out).resolve_right hk
            have e2 : Op.bytesLess key.toList x.1.toList = true := hk2
            have e3 : ¬ x.1.toList = key.toList := fun e => hk (toList_inj e)
            have e4 : ¬ x.1 = key := hk
            have HK := Lib.hid hk
            clear hk hk2
            go_wp2_with (first | (at_builtin; refine wpl_app2 Tryz.elP encP_ok rfl _ _ rfl w.heap.size _ _ out [(key, value)] rfl rfl (HS.out.1.ext ((Mods.refl _ _).alloc _)) (Sl.one (F := NoF) (heap_at (by simp)) (fun f => f)) (by have := HOL.out; simp only [List.length_cons, List.length_nil]; omega) (by have := HSZ.out; simp; omega) (fun f => f) ?_; intro a4 c4 w4 hO4 hm4 hat4; have y0 := cellM hm4 (cellE ((Mods.refl _ wr).alloc (.cells #[.string key, .string value] 98)) c0) (fun e => by have := (HS.out.1.lt _ e).1; omega); have y1 := cellM hm4 (cellE ((Mods.refl _ wr).alloc (.cells #[.string key, .string value] 98)) c1) (fun e => by have := (HS.out.1.lt _ e).1; omega)) | (at_builtin; refine wpl_app2 Tryz.elP encP_ok rfl _ _ rfl w.heap.size _ _ (out ++ [(key, value)]) [x] rfl rfl (hO4.ext ((Mods.refl _ _).alloc _)) (Sl.one (F := NoF) (heap_at (by simp)) (fun f => f)) (by have := HOL.out; simp only [List.length_append, List.length_cons, List.length_nil]; omega) (by have := hm4.size; have := HSZ.out; simp at *; omega) (fun f => f) ?_; intro a5 c5 w5 hO5 hm5 hat5))
            have HS3 : Hid (Own NoF w4 w.heap.size 98 2 encP _ (out ++ [(key, value)]) ∧ Ext w w4) := Lib.hid ⟨hO4, (HS.out.2.1.alloc _).trans' hm4 (fun i hi e => by have := (HS.out.1.lt i e).1; omega)⟩
            have HS4 : Hid (Own NoF w5 w.heap.size 98 2 encP (.slice a5 (out.length + 1 + 1) c5) (out ++ [(key, value)] ++ [x]) ∧ Ext w w5 ∧ WthI key value over l (k + 1) true (out ++ [(key, value)] ++ [x])) := Lib.hid ⟨by have e := hO5; simp only [List.length_append, List.length_cons, List.length_nil, Nat.zero_add] at e; exact e, (HS3.out.2.alloc _).trans' hm5 (fun i hi e => by have := (HS3.out.1.lt i e).1; omega), HS.out.2.2.gt HX.out HE.out HK.out⟩
            clear hO5 hm5 hat5
            go_wp2_with fail
            go_roundg (gk - 1)
            case measure => omega
            case rel => exact ⟨k + 1, true, _, by omega, by go_num, rfl, HS4⟩
    · have HLE : Hid (l.length ≤ k) := Lib.hid (by omega)
      have HSZ : Hid (w.heap.size ≤ wr.heap.size) := Lib.hid HS.out.2.1.size
      have HOL : Hid (out.length ≤ k + 1) := Lib.hid (by have := HS.out.2.2.1; omega)
      have hb : w.heap.size ≤ wr.heap.size := HSZ.out
      cases dn with
      | true =>
        go_wp2_with fail
        go_ret
        exact ⟨_, rfl, by rw [← HS.out.2.2.done HLE.out]; exact HS.out.1, HS.out.2.1⟩
      | false =>
        go_wp2_with (at_builtin; refine wpl_app2 Tryz.elP encP_ok rfl _ _ rfl w.heap.size _ _ out [(key, value)] rfl rfl (HS.out.1.ext ((Mods.refl _ _).alloc _)) (Sl.one (F := NoF) (heap_at (by simp)) (fun f => f)) (by have := HOL.out; simp only [List.length_cons, List.length_nil]; omega) (by have := HSZ.out; simp; omega) (fun f => f) ?_; intro a4 c4 w4 hO4 hm4 hat4)
        have HS4 : Hid (Own NoF w4 w.heap.size 98 2 encP _ (withP key value over l) ∧ Ext w w4) := Lib.hid ⟨by rw [← HS.out.2.2.last HLE.out]; exact hO4, (HS.out.2.1.alloc _).trans' hm4 (fun i hi e => by have := (HS.out.1.lt i e).1; omega)⟩
        clear hO4 hm4 hat4
        go_wp2_with fail
        go_ret
        exact ⟨_, rfl, HS4.out.1, HS4.out.2⟩
end
end Go.Proofs.YtepafbokbfcbgaaGreatDoor
