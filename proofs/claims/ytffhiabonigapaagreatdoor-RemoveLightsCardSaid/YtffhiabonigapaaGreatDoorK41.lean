/- ref11.leaves. | ref11.With. -/
import Derived.Test.YtffhiabonigapaaGreatDoorK40
import Derived.Deep.CutBlock
import Derived.Deep.DeepCutAuto
import Derived.Test.YtffhiabonigapaaGreatDoorK03
namespace Go.Proofs.YtffhiabonigapaaGreatDoor
open Go.RowKit
attribute [local go_sem ↓] Go.wp_at_zero Go.wp_at_succ
theorem encP_ok : EncOk encP 2 := ⟨fun _ => rfl, by intro x u hu; simp [encP] at hu; rcases hu with rfl | rfl <;> rfl⟩
theorem Own.some {α : Type} {F : Nat → Prop} {w : World} {base : Nat} {e : TypeId} {sz : Nat} {enc : α → List Value} {v : Value} {l : List α} (h : Own F w base e sz enc v l) (hl : l ≠ []) : ∃ g c, v = .slice (Option.some ⟨g, 0, none⟩) l.length c ∧ l.length ≤ c ∧ c ≤ maxLen ∧ base ≤ g ∧ g < w.heap.size ∧ ∀ o, w.frozen? ⟨g, o, none⟩ = false := by
  rcases h.1.2 with ⟨_, h0⟩ | ⟨g, cap, cur, rfl, hb, hg, h1, h2, _⟩
  · exact absurd (List.eq_nil_of_length_eq_zero h0) hl
  · refine ⟨g, cap, rfl, h1, h2, hb, (Array.getElem?_eq_some_iff.1 hg).1, fun o => ?_⟩
    exact Blk.frozen (c := cur) (t := e) hg o
theorem Sl.cellsAt {α : Type} {F : Nat → Prop} {w : World} {sz : Nat} {enc : α → List Value} {b off n c : Nat} {l : List α} (h : Sl F w sz enc (.slice (Option.some ⟨b, off, none⟩) n c) l) {j : Nat} {x : α} (hx : l[j]? = Option.some x) : ∀ i u, (enc x)[i]? = Option.some u → w.cell? ⟨b, off + j * sz + i, none⟩ = Option.some u := by
  obtain ⟨a', c', e1, _, _, _, e5⟩ := h
  injection e1 with e1 _ _
  subst e1
  rcases e5 with rfl | ⟨b', off', e, _, _, hc⟩
  · simp at hx
  · injection e with e
    injection e with e1 e2
    subst e1 e2
    exact hc j x hx
end Go.Proofs.YtffhiabonigapaaGreatDoor
namespace Go.Proofs.YtffhiabonigapaaGreatDoor
open Go.RowKit
attribute [local go_sem ↓] Go.wp_at_zero Go.wp_at_succ
theorem Tryz.mkP : (Tryz.prog.info? 38).map (fun i => (i.zero, i.size, i.bytes)) = some (some (.agg #[.string ⟨#[]⟩, .string ⟨#[]⟩]), 2, 32) := by kernel_rfl
theorem Tryz.elP : ElT Tryz.prog 66 38 (.agg #[.string ⟨#[]⟩, .string ⟨#[]⟩]) 2 32 := ⟨Tryz.underlying66, Tryz.mkP, rfl, by decide, by decide⟩
section
variable {F : Nat → Prop} {w w' wr w2 : World}
/-- a row of pairs of the call's own. -/
def PairsRes (w : World) (l : List PairS) (e : Ending) (w' : World) : Prop := ∃ v, e = .returned v ∧ Own NoF w' w.heap.size 38 2 encP v l ∧ Ext w w'
set_option maxRecDepth 100000 in
set_option maxHeartbeats 2000000 in
theorem with_any (l : List PairS) (lv : Value) (hl : Sl F w 2 encP lv l) (hlen : l.length ≤ 1000) (key value : ByteArray) (over : Bool) :
    Calls Tryz.prog 36 #[lv, .string key, .string value, .bool over] w (PairsRes w (withP key value over l)) := by
  obtain ⟨la, lc, rfl, h1, h2, h3, hll⟩ := hl
  unfold maxLen at h2
  have HLL := Lib.hid hll
  clear hll
  go_enter Tryz.func36, Tryz.ntmps36
  go_wp2_with fail
  have HO0 : Hid (Own NoF (w.alloc (.cells #[] 38)) w.heap.size 38 2 encP (.slice (some ⟨w.heap.size, 0, none⟩) 0 0) []) := Lib.hid
    (Own.made (l := ([] : List PairS)) (cur := #[]) (cap := 0) (heap_at (by simp)) (by omega) (fun f => f) (Nat.le_refl _) (by simp [maxLen]) (by simp) (by simp) (fun _ => rfl))
  have HM0 : Hid (Ext w (w.alloc (.cells #[] 38))) := Lib.hid ((Mods.refl _ w).alloc _)
  go_loopg [9, 10, 11] l.length (fun m v9 v10 v11 wr => ∃ (k : Nat) (dn : Bool) (out : List PairS), k + m = l.length ∧ v11 = .int .i64 (k : Int) ∧ v10 = .bool dn ∧ Hid (Own NoF wr w.heap.size 38 2 encP v9 out ∧ Ext w wr ∧ WthI key value over l k dn out))
  case atStart => exact ⟨0, false, [], by omega, rfl, rfl, Lib.hid ⟨HO0.out, HM0.out, WthI.start⟩⟩
  case round =>
    obtain ⟨k, dn, out, hkm, rfl, rfl, HS⟩ := hrel
    by_cases hlt : k < l.length
    · obtain ⟨b, off, rfl, hb, hF, hc⟩ := Sl.at HLL.out HS.out.2.1 (fun _ _ f => f.elim) k hlt
      obtain ⟨x, hx⟩ : ∃ x, l[k]? = some x := ⟨_, List.getElem?_eq_getElem hlt⟩
      have hx' : l[k] = x := by rw [List.getElem?_eq_getElem hlt] at hx; exact Option.some.inj hx
      rw [hx'] at hc
      have c0 := hc 0 _ rfl
      simp only [Nat.add_zero] at c0
      have c1 := hc 1 _ rfl
      have HX := Lib.hid hx
      have HOL : Hid (out.length ≤ k + 1) := Lib.hid (by have := HS.out.2.2.1; omega)
      clear hc hx hx'
      have i1 : (0 : Int) ≤ (k : Int) := by omega
      have i2 : (k : Int) < (l.length : Int) := by omega
      have HSZ : Hid (w.heap.size ≤ wr.heap.size) := Lib.hid HS.out.2.1.size
      cases dn with
      | true =>
        go_wp2_with (at_builtin; refine wpl_app2 Tryz.elP encP_ok rfl _ _ rfl w.heap.size _ _ out [x] rfl rfl (HS.out.1.ext ((Mods.refl _ _).alloc _)) (Sl.one (F := NoF) (heap_at (by simp)) (fun f => f)) (by have := HOL.out; simp only [List.length_cons, List.length_nil]; omega) (by have := hb; have := HSZ.out; simp; omega) (fun f => f) ?_; intro a4 c4 w4 hO4 hm4 hat4)
        have HS4 : Hid (Own NoF w4 w.heap.size 38 2 encP _ _ ∧ Ext w w4 ∧ WthI key value over l (k + 1) true (out ++ [x])) := Lib.hid ⟨hO4, (HS.out.2.1.alloc _).trans' hm4 (fun i hi e => by have := (HS.out.1.lt i e).1; omega), HS.out.2.2.pass HX.out⟩
        clear hO4 hm4 hat4
        go_wp2_with fail
        go_roundg (gk - 1)
        case measure => omega
        case rel => exact ⟨k + 1, true, _, by omega, by go_num, rfl, HS4⟩
      | false =>
        by_cases hl : ltS x.1 key = true
        · have e1 : Op.bytesLess x.1.toList key.toList = true := hl
          have HE := Lib.hid hl
          clear hl
          go_wp2_with (at_builtin; refine wpl_app2 Tryz.elP encP_ok rfl _ _ rfl w.heap.size _ _ out [x] rfl rfl (HS.out.1.ext ((Mods.refl _ _).alloc _)) (Sl.one (F := NoF) (heap_at (by simp)) (fun f => f)) (by have := HOL.out; simp only [List.length_cons, List.length_nil]; omega) (by have := hb; have := HSZ.out; simp; omega) (fun f => f) ?_; intro a4 c4 w4 hO4 hm4 hat4)
          have HS4 : Hid (Own NoF w4 w.heap.size 38 2 encP _ _ ∧ Ext w w4 ∧ WthI key value over l (k + 1) false (out ++ [x])) := Lib.hid ⟨hO4, (HS.out.2.1.alloc _).trans' hm4 (fun i hi e => by have := (HS.out.1.lt i e).1; omega), HS.out.2.2.lt HX.out HE.out⟩
          clear hO4 hm4 hat4
          go_wp2_with fail
          go_roundg (gk - 1)
          case measure => omega
          case rel => exact ⟨k + 1, false, _, by omega, by go_num, rfl, HS4⟩
        · have hl' : ltS x.1 key = false := by simpa using hl
          have e1 : Op.bytesLess x.1.toList key.toList = false := hl'
          have HE := Lib.hid hl'
          clear hl hl'
          by_cases hk : x.1 = key
          · obtain ⟨xk, xv⟩ := x
            simp only at hk
            subst hk
            cases over with
            | true =>
              go_wp2_with (at_builtin; refine wpl_app2 Tryz.elP encP_ok rfl _ _ rfl w.heap.size _ _ out [(xk, value)] rfl rfl (HS.out.1.ext ((Mods.refl _ _).alloc _)) (Sl.one (F := NoF) (heap_at (by simp)) (fun f => f)) (by have := HOL.out; simp only [List.length_cons, List.length_nil]; omega) (by have := HSZ.out; simp; omega) (fun f => f) ?_; intro a4 c4 w4 hO4 hm4 hat4; have y0 := cellM hm4 (cellE ((Mods.refl _ wr).alloc (.cells #[.string xk, .string value] 38)) c0) (fun e => by have := (HS.out.1.lt _ e).1; omega); have y1 := cellM hm4 (cellE ((Mods.refl _ wr).alloc (.cells #[.string xk, .string value] 38)) c1) (fun e => by have := (HS.out.1.lt _ e).1; omega))
              have HS4 : Hid (Own NoF w4 w.heap.size 38 2 encP _ _ ∧ Ext w w4 ∧ WthI xk value true l (k + 1) true (out ++ [(xk, value)])) := Lib.hid ⟨hO4, (HS.out.2.1.alloc _).trans' hm4 (fun i hi e => by have := (HS.out.1.lt i e).1; omega), HS.out.2.2.eqO HX.out rfl⟩
              clear hO4 hm4 hat4
              go_wp2_with fail
              go_roundg (gk - 1)
              case measure => omega
              case rel => exact ⟨k + 1, true, _, by omega, by go_num, rfl, HS4⟩
            | false =>
              go_wp2_with (at_builtin; refine wpl_app2 Tryz.elP encP_ok rfl _ _ rfl w.heap.size _ _ out [(xk, xv)] rfl rfl (HS.out.1.ext ((Mods.refl _ _).alloc _)) (Sl.one (F := NoF) (heap_at (by simp)) (fun f => f)) (by have := HOL.out; simp only [List.length_cons, List.length_nil]; omega) (by have := HSZ.out; simp; omega) (fun f => f) ?_; intro a4 c4 w4 hO4 hm4 hat4)
              have HS4 : Hid (Own NoF w4 w.heap.size 38 2 encP _ _ ∧ Ext w w4 ∧ WthI xk value false l (k + 1) true (out ++ [(xk, xv)])) := Lib.hid ⟨hO4, (HS.out.2.1.alloc _).trans' hm4 (fun i hi e => by have := (HS.out.1.lt i e).1; omega), HS.out.2.2.eqN HX.out rfl⟩
              clear hO4 hm4 hat4
              go_wp2_with fail
              go_roundg (gk - 1)
              case measure => omega
              case rel => exact ⟨k + 1, true, _, by omega, by go_num, rfl, HS4⟩
          · have hk2 : ltS key x.1 = true := (not_ltS HE.out).resolve_right hk
            have e2 : Op.bytesLess key.toList x.1.toList = true := hk2
            have e3 : ¬ x.1.toList = key.toList := fun e => hk (toList_inj e)
            have e4 : ¬ x.1 = key := hk
            have HK := Lib.hid hk
            clear hk hk2
            go_wp2_with (first | (at_builtin; refine wpl_app2 Tryz.elP encP_ok rfl _ _ rfl w.heap.size _ _ out [(key, value)] rfl rfl (HS.out.1.ext ((Mods.refl _ _).alloc _)) (Sl.one (F := NoF) (heap_at (by simp)) (fun f => f)) (by have := HOL.out; simp only [List.length_cons, List.length_nil]; omega) (by have := HSZ.out; simp; omega) (fun f => f) ?_; intro a4 c4 w4 hO4 hm4 hat4; have y0 := cellM hm4 (cellE ((Mods.refl _ wr).alloc (.cells #[.string key, .string value] 38)) c0) (fun e => by have := (HS.out.1.lt _ e).1; omega); have y1 := cellM hm4 (cellE ((Mods.refl _ wr).alloc (.cells #[.string key, .string value] 38)) c1) (fun e => by have := (HS.out.1.lt _ e).1; omega)) | (at_builtin; refine wpl_app2 Tryz.elP encP_ok rfl _ _ rfl w.heap.size _ _ (out ++ [(key, value)]) [x] rfl rfl (hO4.ext ((Mods.refl _ _).alloc _)) (Sl.one (F := NoF) (heap_at (by simp)) (fun f => f)) (by have := HOL.out; simp only [List.length_append, List.length_cons, List.length_nil]; omega) (by have := hm4.size; have := HSZ.out; simp at *; omega) (fun f => f) ?_; intro a5 c5 w5 hO5 hm5 hat5))
            have HS3 : Hid (Own NoF w4 w.heap.size 38 2 encP _ (out ++ [(key, value)]) ∧ Ext w w4) := Lib.hid ⟨hO4, (HS.out.2.1.alloc _).trans' hm4 (fun i hi e => by have := (HS.out.1.lt i e).1; omega)⟩
            have HS4 : Hid (Own NoF w5 w.heap.size 38 2 encP (.slice a5 (out.length + 1 + 1) c5) (out ++ [(key, value)] ++ [x]) ∧ Ext w w5 ∧ WthI key value over l (k + 1) true (out ++ [(key, value)] ++ [x])) := Lib.hid ⟨by have e := hO5; simp only [List.length_append, List.length_cons, List.length_nil, Nat.zero_add] at e; exact e, (HS3.out.2.alloc _).trans' hm5 (fun i hi e => by have := (HS3.out.1.lt i e).1; omega), HS.out.2.2.gt HX.out HE.out HK.out⟩
            clear hO5 hm5 hat5
            go_wp2_with fail
            go_roundg (gk - 1)
            case measure => omega
            case rel => exact ⟨k + 1, true, _, by omega, by go_num, rfl, HS4⟩
    · have HLE : Hid (l.length ≤ k) := Lib.hid (by omega)
      have HSZ : Hid (w.heap.size ≤ wr.heap.size) := Lib.hid HS.out.2.1.size
      have HOL : Hid (out.length ≤ k + 1) := Lib.hid (by have := HS.out.2.2.1; omega)
      have hb : w.heap.size ≤ wr.heap.size := HSZ.out
      cases dn with
      | true =>
        go_wp2_with fail
        go_ret
        exact ⟨_, rfl, by rw [← HS.out.2.2.done HLE.out]; exact HS.out.1, HS.out.2.1⟩
      | false =>
        go_wp2_with (at_builtin; refine wpl_app2 Tryz.elP encP_ok rfl _ _ rfl w.heap.size _ _ out [(key, value)] rfl rfl (HS.out.1.ext ((Mods.refl _ _).alloc _)) (Sl.one (F := NoF) (heap_at (by simp)) (fun f => f)) (by have := HOL.out; simp only [List.length_cons, List.length_nil]; omega) (by have := HSZ.out; simp; omega) (fun f => f) ?_; intro a4 c4 w4 hO4 hm4 hat4)
        have HS4 : Hid (Own NoF w4 w.heap.size 38 2 encP _ (withP key value over l) ∧ Ext w w4) := Lib.hid ⟨by rw [← HS.out.2.2.last HLE.out]; exact hO4, (HS.out.2.1.alloc _).trans' hm4 (fun i hi e => by have := (HS.out.1.lt i e).1; omega)⟩
        clear hO4 hm4 hat4
        go_wp2_with fail
        go_ret
        exact ⟨_, rfl, HS4.out.1, HS4.out.2⟩
end
end Go.Proofs.YtffhiabonigapaaGreatDoor
