/- ref07.Right at inner nodes. | ref07.Get: bounds of what it reads; what stands while it reads. -/
import Derived.Test.YtmgfneijcfjlfaaGreatDoorK44
import Derived.Test.YtmgfneijcfjlfaaGreatDoorK42
import Derived.Test.YtmgfneijcfjlfaaGreatDoorK21
namespace Go.Proofs.YtmgfneijcfjlfaaGreatDoor
open Go.RowKit
attribute [local go_sem ↓] Go.wp_at_zero Go.wp_at_succ
theorem nodup_few : ∀ (N : Nat) (l : List Int), l.Nodup → (∀ x ∈ l, 0 ≤ x ∧ x < (N : Int)) → l.length ≤ N
  | 0, l, _, h => by
    cases l with
    | nil => simp
    | cons x l => have := h x List.mem_cons_self; omega
  | N + 1, l, hn, h => by
    by_cases hm : (N : Int) ∈ l
    · have h1 := nodup_few N (l.erase (N : Int)) (hn.erase _) (fun x hx => by
        have h2 := (hn.mem_erase_iff).1 hx
        have h3 := h x h2.2
        have : x ≠ (N : Int) := h2.1
        omega)
      have h2 := List.length_erase_of_mem hm
      omega
    · have h1 := nodup_few N l hn (fun x hx => by
        have h3 := h x hx
        have : x ≠ (N : Int) := fun e => hm (e ▸ hx)
        omega)
      omega
theorem kids_few {l : List Int} (h1 : l.Nodup) (h2 : ∀ x ∈ l, kidB x = true) : l.length ≤ 256 :=
  nodup_few 256 l h1 (fun x hx => by have := h2 x hx; simp [kidB] at this; omega)
section
variable {F : Nat → Prop} {w w' wr w2 : World}
/-- so far kids are right, and differ. -/
def KidTo (l : List Int) (k : Nat) : Prop := (∀ x ∈ l.take k, kidB x = true) ∧ (l.take k).Nodup
theorem KidTo.next {l : List Int} {k : Nat} {x : Int} (h : KidTo l k) (hx : l[k]? = some x) (hk : kidB x = true) (hn : x ∉ l.take k) : KidTo l (k + 1) := by
  refine ⟨fun y hy => ?_, ?_⟩
  · rw [take_one l k x hx] at hy
    rcases List.mem_append.1 hy with hy | hy
    · exact h.1 y hy
    · rw [List.mem_singleton.1 hy]; exact hk
  · rw [take_one l k x hx, List.nodup_append]
    exact ⟨h.2, by simp, fun a ha b hb e => by rw [List.mem_singleton.1 hb] at e; exact hn (e ▸ ha)⟩
/-- so far keys are right, and rise. -/
def KeyTo (l : List ByteArray) (k : Nat) : Prop := (∀ x ∈ l.take k, keyB x = true) ∧ upTo l k
theorem KeyTo.first {l : List ByteArray} {x : ByteArray} (hx : l[0]? = some x) (hr : keyB x = true) : KeyTo l 1 := by
  refine ⟨fun y hy => ?_, fun i a b hi => by omega⟩
  rw [take_one l 0 x hx] at hy
  simp at hy; subst hy; exact hr
theorem KeyTo.next {l : List ByteArray} {k : Nat} {x y : ByteArray} (h : KeyTo l (k + 1)) (hx : l[k]? = some x) (hy : l[k + 1]? = some y) (hr : keyB y = true) (hl : leS y x = false) : KeyTo l (k + 2) := by
  refine ⟨fun z hz => ?_, upTo_step h.2 hx hy hl⟩
  rw [show k + 2 = k + 1 + 1 from rfl, take_one l (k + 1) y hy] at hz
  rcases List.mem_append.1 hz with hz | hz
  · exact h.1 z hz
  · rw [List.mem_singleton.1 hz]; exact hr
theorem inner_wrong {n : NodeA} (h : n.leaf = false) (hb : n.kids.all kidB = false ∨ ¬ n.kids.Nodup ∨ n.keys.all keyB = false ∨ risingS n.keys = false) : rightN n = false := by
  rw [right_inner h]
  unfold innerB
  rcases hb with hb | hb | hb | hb
  · rw [hb]; simp
  · rw [decide_eq_false hb]; simp
  · rw [hb]; simp
  · rw [hb]; simp
theorem not_nodup {l : List Int} {k : Nat} {x : Int} (hx : l[k]? = some x) (hm : x ∈ l.take k) : ¬ l.Nodup := by
  intro h
  obtain ⟨hk, rfl⟩ := List.getElem?_eq_some_iff.1 hx
  obtain ⟨i, hi, e⟩ := List.getElem_of_mem hm
  simp only [List.length_take] at hi
  rw [List.getElem_take] at e
  have := List.pairwise_iff_getElem.1 h i k (by omega) hk (by omega)
  exact this e
theorem kid07_t (n : Int) (w : World) (b : Bool) (h : kidB n = b) : Calls Tryz.prog 87 #[.int .i64 n] w fun e w' => e = .returned (.bool b) ∧ w' = w := by
  subst h
  exact (kid07_any n w).mono fun _ _ ⟨h1, h2⟩ => ⟨h1, h2.symm⟩
theorem in07_t (l : List Int) (v : Value) (hl : Sl F w 1 encI v l) (n : Int) (b : Bool) (h : decide (n ∈ l) = b) :
    Calls Tryz.prog 88 #[v, .int .i64 n] w fun x w' => x = .returned (.bool b) ∧ w' = w := by
  subst h
  exact (in07_any l v hl n).mono fun _ _ ⟨h1, h2⟩ => ⟨h1, h2.symm⟩
theorem key07_q (s : ByteArray) (w : World) (b : Bool) (h : keyB s = b) : Calls Tryz.prog 12 #[.string s] w fun e w' => e = .returned (.bool b) ∧ w' = w :=
  (key07_t s w b h).mono fun _ _ ⟨h1, h2⟩ => ⟨h1, h2.symm⟩
set_option maxRecDepth 100000 in
set_option maxHeartbeats 4000000 in
theorem right07I_any (n : NodeA) (hlf : n.leaf = false) (ve vk vi : Value) (hve : Sl F w 4 encE ve n.entries) (hvk : Sl F w 1 encS vk n.keys) (hvi : Sl F w 1 encI vi n.kids) :
    Calls Tryz.prog 51 #[.agg #[.bool false, ve, vk, vi]] w fun x w' => x = .returned (.bool (rightN n)) ∧ Ext w w' := by
  obtain ⟨ea, ec, rfl, e1, e2, e3, _⟩ := hve
  obtain ⟨ka, kc, rfl, k1, k2, k3, hkk⟩ := hvk
  have HVI := Lib.hid hvi
  obtain ⟨ia, ic, rfl, i1, i2, i3, hii⟩ := hvi
  unfold maxLen at e2 k2 i2
  obtain ⟨el, hel⟩ : ∃ el, el = n.entries.length := ⟨_, rfl⟩
  rw [← hel] at e1 e3 ⊢
  have HEL := Lib.hid hel
  clear hel
  have HK := Lib.hid hkk
  have HI := Lib.hid hii
  have HW : Hid (Ext w (w.alloc (.cells #[.bool false, .slice ea el ec, .slice ka n.keys.length kc, .slice ia n.kids.length ic] 57)) ∧ Blk (w.alloc (.cells #[.bool false, .slice ea el ec, .slice ka n.keys.length kc, .slice ia n.kids.length ic] 57)) w.heap.size #[.bool false, .slice ea el ec, .slice ka n.keys.length kc, .slice ia n.kids.length ic] 57) := Lib.hid ⟨(Mods.refl _ w).alloc _, Blk.new w _ _⟩
  have HLF := Lib.hid hlf
  clear hkk hii hlf
  by_cases h1 : 0 < el
  · have HR : Hid (rightN n = false) := Lib.hid (by
      rw [right_inner HLF.out]; unfold innerB
      cases he : n.entries with
      | nil => have := HEL.out; rw [he] at this; simp at this; omega
      | cons _ _ => simp)
    have h1b : (0 : Int) < (el : Int) := by omega
    go_enter Tryz.func51, Tryz.ntmps51
    go_wp2_with fail
    go_ret
    exact ⟨by rw [HR.out]; rfl, HW.out.1⟩
  · have HE0 : Hid (n.entries = []) := Lib.hid (List.eq_nil_of_length_eq_zero (by have := HEL.out; omega))
    have h1b : ¬ (0 : Int) < (el : Int) := by omega
    by_cases h2 : n.kids.length < 2
    · have HR : Hid (rightN n = false) := Lib.hid (by
        rw [right_inner HLF.out]; unfold innerB
        rw [decide_eq_false (show ¬ 2 ≤ n.kids.length by omega)]; simp)
      have h2b : (n.kids.length : Int) < 2 := by omega
      go_enter Tryz.func51, Tryz.ntmps51
      go_wp2_with fail
      go_ret
      exact ⟨by rw [HR.out]; rfl, HW.out.1⟩
    · have h2b : ¬ (n.kids.length : Int) < 2 := by omega
      by_cases h3 : n.kids.length = n.keys.length + 1
      · have h3b : ((n.kids.length : Int) - 1 == (n.keys.length : Int)) = true := by rw [beq_iff_eq]; omega
        have h3c : ((n.kids.length : Int) - 1 != (n.keys.length : Int)) = false := by unfold bne; rw [h3b]; rfl
        have H3 := Lib.hid h3
        have HR : Hid (rightN n = (decide (n.kids.length ≤ 256) && n.kids.all kidB && decide n.kids.Nodup && n.keys.all keyB && risingS n.keys)) := Lib.hid (by
          rw [right_inner HLF.out]; unfold innerB
          rw [HE0.out, decide_eq_true (show 2 ≤ n.kids.length by omega), decide_eq_true h3]; simp)
        have H2 := Lib.hid h2
        clear h3 h2
        go_enter Tryz.func51, Tryz.ntmps51
        go_wp2_with fail
        go_loopg [4] n.kids.length (fun m v4 wr => ∃ (k : Nat), k + m = n.kids.length ∧ v4 = .int .i64 (k : Int) ∧ Hid (KidTo n.kids k) ∧ Hid (Ext w wr ∧ Blk wr w.heap.size #[.bool false, .slice ea el ec, .slice ka n.keys.length kc, .slice ia n.kids.length ic] 57))
        case atStart => exact ⟨0, by omega, rfl, Lib.hid ⟨fun x hx => by simp at hx, by simp⟩, HW⟩
        case round =>
          obtain ⟨k, hkm, rfl, HS, HW⟩ := hrel
          have hbl := HW.out.2.lt
          have b2 := HW.out.2.cell (o := 2) (v := .slice ka n.keys.length kc) rfl
          have b3 := HW.out.2.cell (o := 3) (v := .slice ia n.kids.length ic) rfl
          by_cases hlt : k < n.kids.length
          · obtain ⟨b, off, rfl, hb, hF, hc⟩ := Sl.at HI.out HW.out.1 (fun _ _ f => f.elim) k hlt
            obtain ⟨x, hx⟩ : ∃ x, n.kids[k]? = some x := ⟨_, List.getElem?_eq_getElem hlt⟩
            have hx' : n.kids[k] = x := by rw [List.getElem?_eq_getElem hlt] at hx; exact Option.some.inj hx
            rw [hx'] at hc
            have c0 : wr.cell? ⟨b, off + k, none⟩ = some (.int .i64 x) := by have := hc 0 _ rfl; simpa using this
            have HX := Lib.hid hx
            have HKX : Hid (kidB x = kidB n.kids[k]) := Lib.hid (by rw [hx'])
            clear hc hx hx'
            have j1 : (0 : Int) ≤ (k : Int) := by omega
            have j2 : (k : Int) < (n.kids.length : Int) := by omega
            have hk300 : k ≤ 254 := by
              have h9 := nodup_few 256 (n.kids.take k) HS.out.2 (fun x hx => by have := HS.out.1 x hx; simp [kidB] at this; omega)
              have h10 := nodup_few 254 ((n.kids.take k).map fun x => x - 2) (by
                rw [List.nodup_iff_pairwise_ne, List.pairwise_map]
                exact List.Pairwise.imp (fun h e => h (by omega)) HS.out.2) (fun x hx => by
                obtain ⟨y, hy, rfl⟩ := List.mem_map.1 hx
                have := HS.out.1 y hy; simp [kidB] at this; omega)
              simp only [List.length_map, List.length_take] at h10
              omega
            have d300 : decide ((300 : Int) < (k : Int)) = false := decide_eq_false (by omega)
            cases hkd : kidB x with
            | false =>
              have HR2 : Hid (rightN n = false) := Lib.hid (inner_wrong HLF.out (.inl (all_not hlt (by rw [← HKX.out]; exact hkd))))
              have HQ := Lib.hid hkd
              clear hkd
              go_wp2_with fail
              go_quiet ((go_at_call 87; exact Calls.quiet_of_same (kid07_t _ _ _ HQ.out)))
              go_wp2_with fail
              go_ret
              exact ⟨by rw [HR2.out]; rfl, HW.out.1.drewN _⟩
            | true =>
              have HQ := Lib.hid hkd
              clear hkd
              have HPRE : Hid (Sl F wr 1 encI (.slice (some ⟨b, off, none⟩) k ic) (n.kids.take k)) := Lib.hid ((HVI.out.ext HW.out.1).pre k (by omega))
              have j3 : (k : Int) ≤ (ic : Int) := by omega
              cases hin : decide (x ∈ n.kids.take k) with
              | true =>
                have HR2 : Hid (rightN n = false) := Lib.hid (inner_wrong HLF.out (.inr (.inl (not_nodup HX.out (by simpa using hin)))))
                have HN := Lib.hid hin
                clear hin
                go_wp2_with fail
                go_quiet ((first | (go_at_call 87; exact Calls.quiet_of_same (kid07_t _ _ _ HQ.out)) | (go_at_call 88; exact Calls.quiet_of_same (in07_t _ _ (HPRE.out.ext ((Mods.refl _ wr).drewN _)) _ _ HN.out))))
                go_wp2_with fail
                go_ret
                exact ⟨by rw [HR2.out]; rfl, HW.out.1.drewN _⟩
              | false =>
                have HS2 : Hid (KidTo n.kids (k + 1)) := Lib.hid (HS.out.next HX.out HQ.out (by simpa using hin))
                have HN := Lib.hid hin
                clear hin
                go_wp2_with fail
                go_quiet ((first | (go_at_call 87; exact Calls.quiet_of_same (kid07_t _ _ _ HQ.out)) | (go_at_call 88; exact Calls.quiet_of_same (in07_t _ _ (HPRE.out.ext ((Mods.refl _ wr).drewN _)) _ _ HN.out))))
                go_wp2_with fail
                go_roundg (gk - 1)
                case measure => omega
                case rel => exact ⟨k + 1, by omega, by go_num, HS2, Lib.hid ⟨HW.out.1.drewN _, HW.out.2.ext ((Mods.refl _ _).drewN _)⟩⟩
          · have HKS : Hid (n.kids.all kidB = true ∧ n.kids.Nodup ∧ n.kids.length ≤ 256) := Lib.hid (by
              have h9 := HS.out
              unfold KidTo at h9
              rw [List.take_of_length_le (by omega)] at h9
              exact ⟨List.all_eq_true.2 h9.1, h9.2, kids_few h9.2 h9.1⟩)
            have HR2 : Hid (rightN n = (n.keys.all keyB && risingS n.keys)) := Lib.hid (by
              rw [HR.out, HKS.out.1, decide_eq_true HKS.out.2.1, decide_eq_true HKS.out.2.2]; simp)
            obtain ⟨w5, hw5⟩ : ∃ w5, w5 = wr := ⟨_, rfl⟩
            have HW5 : Hid (Ext w w5 ∧ Blk w5 w.heap.size #[.bool false, .slice ea el ec, .slice ka n.keys.length kc, .slice ia n.kids.length ic] 57) := Lib.hid (by rw [hw5]; exact HW.out)
            rw [← hw5] at b2 b3 ⊢
            clear hw5 HS HKS HW hbl wr
            go_wp2_with fail
            go_loopg [5] n.keys.length (fun m v5 wr => ∃ (k : Nat), k + m = n.keys.length ∧ v5 = .int .i64 (k : Int) ∧ Hid (KeyTo n.keys k) ∧ Hid (Ext w wr ∧ Blk wr w.heap.size #[.bool false, .slice ea el ec, .slice ka n.keys.length kc, .slice ia n.kids.length ic] 57))
            case atStart => exact ⟨0, by omega, rfl, Lib.hid ⟨fun x hx => by simp at hx, fun i a b hi => by omega⟩, HW5⟩
            case round =>
              obtain ⟨k, hkm, rfl, HS, HW⟩ := hrel
              have hbl := HW.out.2.lt
              have b2 := HW.out.2.cell (o := 2) (v := .slice ka n.keys.length kc) rfl
              by_cases hlt : k < n.keys.length
              · obtain ⟨b, off, rfl, hb, hF, hc⟩ := Sl.at HK.out HW.out.1 (fun _ _ f => f.elim) k hlt
                obtain ⟨x, hx⟩ : ∃ x, n.keys[k]? = some x := ⟨_, List.getElem?_eq_getElem hlt⟩
                have hx' : n.keys[k] = x := by rw [List.getElem?_eq_getElem hlt] at hx; exact Option.some.inj hx
                rw [hx'] at hc
                have c0 : wr.cell? ⟨b, off + k, none⟩ = some (.string x) := by have := hc 0 _ rfl; simpa using this
                have HX := Lib.hid hx
                have HKX : Hid (keyB x = keyB n.keys[k]) := Lib.hid (by rw [hx'])
                clear hc hx hx'
                have j1 : (0 : Int) ≤ (k : Int) := by omega
                have j2 : (k : Int) < (n.keys.length : Int) := by omega
                cases hkd : keyB x with
                | false =>
                  have HR3 : Hid (rightN n = false) := Lib.hid (inner_wrong HLF.out (.inr (.inr (.inl (all_not hlt (by rw [← HKX.out]; exact hkd))))))
                  have HQ := Lib.hid hkd
                  clear hkd
                  go_wp2_with fail
                  go_quiet ((go_at_call 12; exact Calls.quiet_of_same (key07_q _ _ _ HQ.out)))
                  go_wp2_with fail
                  go_ret
                  exact ⟨by rw [HR3.out]; rfl, HW.out.1.drewN _⟩
                | true =>
                  have HQ := Lib.hid hkd
                  clear hkd
                  by_cases hk0 : k = 0
                  · have d1 : decide ((0 : Int) < (k : Int)) = false := decide_eq_false (by omega)
                    have d2 : decide (0 < k) = false := decide_eq_false (by omega)
                    have HS2 : Hid (KeyTo n.keys (k + 1)) := Lib.hid (by
                      have h0 := HX.out
                      rw [hk0] at h0 ⊢
                      exact KeyTo.first h0 HQ.out)
                    clear hk0
                    go_wp2_with fail
                    go_quiet ((go_at_call 12; exact Calls.quiet_of_same (key07_q _ _ _ HQ.out)))
                    go_wp2_with fail
                    go_roundg (gk - 1)
                    case measure => omega
                    case rel => exact ⟨k + 1, by omega, by go_num, HS2, Lib.hid ⟨HW.out.1.drewN _, HW.out.2.ext ((Mods.refl _ _).drewN _)⟩⟩
                  · obtain ⟨q, hkq⟩ : ∃ q, k = q + 1 := ⟨k - 1, by omega⟩
                    have HKQ := Lib.hid hkq
                    have d1 : decide ((0 : Int) < (k : Int)) = true := decide_eq_true (by omega)
                    have d2 : decide (0 < k) = true := decide_eq_true (by omega)
                    obtain ⟨b', off', hbb, _, _, hd⟩ := Sl.at HK.out HW.out.1 (fun _ _ f => f.elim) q (by omega)
                    injection hbb with hbb
                    injection hbb with hbb1 hbb2
                    subst hbb1 hbb2
                    obtain ⟨y, hy⟩ : ∃ y, n.keys[q]? = some y := ⟨_, List.getElem?_eq_getElem (by omega)⟩
                    have hy' : n.keys[q] = y := by rw [List.getElem?_eq_getElem (by omega)] at hy; exact Option.some.inj hy
                    rw [hy'] at hd
                    have g0 : wr.cell? ⟨b, off + q, none⟩ = some (.string y) := by have := hd 0 _ rfl; simpa using this
                    have HY := Lib.hid hy
                    have j3 : (0 : Int) ≤ (q : Int) := by omega
                    have j4 : (q : Int) < (n.keys.length : Int) := by omega
                    have hw0 : (k : Int) - 1 = (q : Int) := by omega
                    have hw1 : IntKind.i64.wrap ((k : Int) - 1) = (q : Int) := by rw [hw0]; exact IntWalk.i64_in _ (by omega)
                    have hw2 : IntKind.i64.wrap (q : Int) = (q : Int) := IntWalk.i64_in _ (by omega)
                    have HX1 : Hid (n.keys[q + 1]? = some x) := Lib.hid (by rw [← hkq]; exact HX.out)
                    clear hd hy hy' hk0 hkq
                    cases hle : leS x y with
                    | true =>
                      have HR3 : Hid (rightN n = false) := Lib.hid (inner_wrong HLF.out (.inr (.inr (.inr (not_rising (k := q) HY.out HX1.out hle)))))
                      have t2 : (Op.bytesLess x.toList y.toList || x.toList == y.toList) = true := hle
                      clear hle
                      go_wp2_with fail
                      go_quiet ((go_at_call 12; exact Calls.quiet_of_same (key07_q _ _ _ HQ.out)))
                      go_wp2_with fail
                      go_ret
                      exact ⟨by rw [HR3.out]; rfl, HW.out.1.drewN _⟩
                    | false =>
                      have HS2 : Hid (KeyTo n.keys (k + 1)) := Lib.hid (by
                        have h0 := HS.out
                        rw [HKQ.out] at h0 ⊢
                        exact h0.next HY.out HX1.out HQ.out hle)
                      have t2 : (Op.bytesLess x.toList y.toList || x.toList == y.toList) = false := hle
                      clear hle
                      go_wp2_with fail
                      go_quiet ((go_at_call 12; exact Calls.quiet_of_same (key07_q _ _ _ HQ.out)))
                      go_wp2_with fail
                      go_roundg (gk - 1)
                      case measure => omega
                      case rel => exact ⟨k + 1, by omega, by go_num, HS2, Lib.hid ⟨HW.out.1.drewN _, HW.out.2.ext ((Mods.refl _ _).drewN _)⟩⟩
              · have HR3 : Hid (rightN n = true) := Lib.hid (by
                  have h9 := HS.out
                  rw [HR2.out, all_done (k := k) (by omega) h9.1, upTo_all h9.2 (by omega)]; rfl)
                go_wp2_with fail
                go_ret
                exact ⟨by rw [HR3.out]; rfl, HW.out.1⟩
      · have h3b : ((n.kids.length : Int) - 1 == (n.keys.length : Int)) = false := by rw [beq_eq_false_iff_ne]; omega
        have h3c : ((n.kids.length : Int) - 1 != (n.keys.length : Int)) = true := by unfold bne; rw [h3b]; rfl
        have HR : Hid (rightN n = false) := Lib.hid (by
          rw [right_inner HLF.out]; unfold innerB
          rw [decide_eq_false h3]; simp)
        clear h3
        go_enter Tryz.func51, Tryz.ntmps51
        go_wp2_with fail
        go_ret
        exact ⟨by rw [HR.out]; rfl, HW.out.1⟩
theorem right07_t (n : NodeA) (ve vk vi : Value) (hve : Sl F w 4 encE ve n.entries) (hvk : Sl F w 1 encS vk n.keys) (hvi : Sl F w 1 encI vi n.kids) (b : Bool) (hb : rightN n = b) :
    Calls Tryz.prog 51 #[.agg #[.bool n.leaf, ve, vk, vi]] w fun x w' => x = .returned (.bool b) ∧ Ext w w' := by
  subst hb
  cases hl : n.leaf with
  | true => exact right07L_any n hl ve vk vi hve hvk hvi
  | false => exact right07I_any n hl ve vk vi hve hvk hvi
end
end Go.Proofs.YtmgfneijcfjlfaaGreatDoor
namespace Go.Proofs.YtmgfneijcfjlfaaGreatDoor
open Go.RowKit
theorem rfTake_up (l : List UInt8) (p : Int) (W : Nat) (h : 0 ≤ (rfTake l p W).2) : 0 ≤ p ∧ (rfTake l p W).2 = p + W := by
  unfold rfTake at h ⊢
  by_cases h0 : p < 0
  · rw [if_pos h0] at h; exact absurd h (by decide)
  · rw [if_neg h0] at h ⊢
    cases hs : (takeF l p W).2.isSome with
    | true => rw [hs] at h; simp at h
    | false => simp; omega
theorem rfWord_up (l : List UInt8) (p : Int) (h : 0 ≤ (rfWord l p).2) : 0 ≤ p ∧ p + 1 ≤ (rfWord l p).2 := by
  have hx := rfTake_up l p 1
  unfold rfWord at h ⊢
  simp only at h ⊢
  split at h
  · exact absurd h (by decide)
  · rename_i hc
    rw [if_neg hc]
    simp only at h ⊢
    obtain ⟨h1, h2⟩ := hx (by omega)
    omega
theorem rfOne_b (l : List UInt8) (p : Int) (hp : -1 ≤ p) : -1 ≤ (rfOne l p).2 ∧ (rfOne l p).2 ≤ (l.length : Int) ∧ (0 ≤ (rfOne l p).2 → p + 1 ≤ (rfOne l p).2) := by
  have k1 := rfWord_b l p hp
  have k2 := rfWord_up l p
  have c1 := rfTake_b l (rfWord l p).2 1 (.inl rfl) k1.1
  have c2 := rfTake_up l (rfWord l p).2 1
  unfold rfOne
  simp only
  split
  · have v1 := rfWord_b l (rfTake l (rfWord l p).2 1).2 c1.2.1
    have v2 := rfWord_up l (rfTake l (rfWord l p).2 1).2
    simp only
    exact ⟨v1.1, v1.2.1, fun h => by
      obtain ⟨a1, a2⟩ := v2 h
      obtain ⟨b1, b2⟩ := c2 a1
      obtain ⟨d1, d2⟩ := k2 b1
      omega⟩
  · have x1 := rfTake_b l (rfTake l (rfWord l p).2 1).2 4 (.inr (.inr rfl)) c1.2.1
    have x2 := rfTake_up l (rfTake l (rfWord l p).2 1).2 4
    have y1 := rfTake_b l (rfTake l (rfTake l (rfWord l p).2 1).2 4).2 4 (.inr (.inr rfl)) x1.2.1
    have y2 := rfTake_up l (rfTake l (rfTake l (rfWord l p).2 1).2 4).2 4
    simp only
    exact ⟨y1.2.1, y1.2.2.1, fun h => by
      obtain ⟨a1, a2⟩ := y2 h
      obtain ⟨e1, e2⟩ := x2 a1
      obtain ⟨b1, b2⟩ := c2 e1
      obtain ⟨d1, d2⟩ := k2 b1
      omega⟩
theorem bytesN_few {n : NodeA} (h : rightN n = true) (he : n.entries.length ≤ 1000) (hk : n.keys.length ≤ 1000) : (bytesN n).length ≤ 100000 := by
  unfold bytesN
  cases hl : n.leaf with
  | true =>
    simp only [if_true]
    have h1 := flat_len bytesE 59 n.entries (fun e hm => by
      obtain ⟨i, hi, e2⟩ := List.getElem_of_mem hm
      have := right_entry hl h (k := i) (e := e) (by rw [← e2]; exact List.getElem?_eq_getElem hi)
      exact bytesE_len this)
    rw [List.length_append, leB_length]
    omega
  | false =>
    rw [if_neg (by simp)]
    have h2 := flat_len bytesK 37 (n.keys.zip n.kids.tail) (fun p hp => by
      refine bytesK_len ?_
      have hm := (List.of_mem_zip hp).1
      unfold rightN at h
      rw [if_neg (by rw [hl]; simp)] at h
      simp only [Bool.and_eq_true] at h
      exact List.all_eq_true.1 h.1.2 _ hm)
    have h3 : (n.keys.zip n.kids.tail).length ≤ n.keys.length := by rw [List.length_zip]; omega
    simp only [List.length_append, leB_length]
    omega
/-- while ref07.Get reads. -/
structure RfS (w wr : World) (lf : Bool) (es : List EntryA) (ks : List ByteArray) (is : List Int) (ve vk vi s1 s2 s3 : Value) : Prop where
  ext : Ext w wr
  res : Blk wr w.heap.size #[.bool false, .slice none 0 0, .slice none 0 0, .slice none 0 0] 57
  nd : Blk wr (w.heap.size + 1) #[.bool lf, s1, s2, s3] 57
  oe : Own NoF wr (w.heap.size + 2) 107 4 encE ve es
  ok : Own NoF wr (w.heap.size + 2) 9 1 encS vk ks
  oi : Own NoF wr (w.heap.size + 2) 3 1 encI vi is
section
variable {w wr w2 : World} {lf : Bool} {es es' : List EntryA} {ks ks' : List ByteArray} {is is' : List Int} {ve vk vi s1 s2 s3 ve' vk' vi' t1 t2 t3 : Value}
theorem RfS.base (h : RfS w wr lf es ks is ve vk vi s1 s2 s3) : w.heap.size + 2 ≤ wr.heap.size := by have := h.nd.lt; omega
theorem RfS.step (h : RfS w wr lf es ks is ve vk vi s1 s2 s3) (m : Ext wr w2) : RfS w w2 lf es ks is ve vk vi s1 s2 s3 :=
  ⟨h.ext.trans m, h.res.ext m, h.nd.ext m, h.oe.ext m, h.ok.ext m, h.oi.ext m⟩
theorem RfS.drew (h : RfS w wr lf es ks is ve vk vi s1 s2 s3) : RfS w wr.drew lf es ks is ve vk vi s1 s2 s3 := h.step (Mods.refl _ wr).drew
theorem RfS.row (h : RfS w wr lf es ks is ve vk vi s1 s2 s3) {G : Nat → Prop} (hG : ∀ k, G k → w.heap.size + 2 ≤ k) (m : Mods G wr w2)
    (oe : Own NoF w2 (w.heap.size + 2) 107 4 encE ve' es') (ok : Own NoF w2 (w.heap.size + 2) 9 1 encS vk' ks') (oi : Own NoF w2 (w.heap.size + 2) 3 1 encI vi' is') : RfS w w2 lf es' ks' is' ve' vk' vi' s1 s2 s3 := by
  have hn : ∀ k, k < w.heap.size + 2 → ¬ G k := fun k hk g => by have := hG k g; omega
  exact ⟨Mods.past h.ext (m.mono (fun k hk => by have := hG k hk; omega)), h.res.mods m (hn _ (by omega)), h.nd.mods m (hn _ (by omega)), oe, ok, oi⟩
theorem RfS.appE (h : RfS w wr lf es ks is ve vk vi s1 s2 s3) (m : Mods (fun k => ve.ownBlock = some k) wr w2) (oe : Own NoF w2 (w.heap.size + 2) 107 4 encE ve' es') : RfS w w2 lf es' ks is ve' vk vi s1 s2 s3 :=
  h.row (fun k hk => (h.oe.lt k hk).1) m oe (h.ok.mods m (fun g hg e => h.ok.far h.oe (by decide) g hg e)) (h.oi.mods m (fun g hg e => h.oi.far h.oe (by decide) g hg e))
theorem RfS.appK (h : RfS w wr lf es ks is ve vk vi s1 s2 s3) (m : Mods (fun k => vk.ownBlock = some k) wr w2) (ok : Own NoF w2 (w.heap.size + 2) 9 1 encS vk' ks') : RfS w w2 lf es ks' is ve vk' vi s1 s2 s3 :=
  h.row (fun k hk => (h.ok.lt k hk).1) m (h.oe.mods m (fun g hg e => h.oe.far h.ok (by decide) g hg e)) ok (h.oi.mods m (fun g hg e => h.oi.far h.ok (by decide) g hg e))
theorem RfS.appI (h : RfS w wr lf es ks is ve vk vi s1 s2 s3) (m : Mods (fun k => vi.ownBlock = some k) wr w2) (oi : Own NoF w2 (w.heap.size + 2) 3 1 encI vi' is') : RfS w w2 lf es ks is' ve vk vi' s1 s2 s3 :=
  h.row (fun k hk => (h.oi.lt k hk).1) m (h.oe.mods m (fun g hg e => h.oe.far h.oi (by decide) g hg e)) (h.ok.mods m (fun g hg e => h.ok.far h.oi (by decide) g hg e)) oi
/-- a field is stored. -/
theorem RfS.put (h : RfS w wr lf es ks is ve vk vi s1 s2 s3) (i : Nat) (v t1 t2 t3 : Value) (e : (#[.bool lf, s1, s2, s3] : Array Value).setIfInBounds i v = #[.bool lf, t1, t2, t3]) : RfS w (wr.setCell ⟨w.heap.size + 1, i, none⟩ v) lf es ks is ve vk vi t1 t2 t3 := by
  have m : Mods (fun k => k = w.heap.size + 1) wr (wr.setCell ⟨w.heap.size + 1, i, none⟩ v) := Mods.at _ wr _ i v rfl
  have hn := h.nd.set i v
  rw [e] at hn
  exact ⟨Mods.past h.ext (m.mono (fun k (hk : k = w.heap.size + 1) => by omega)), h.res.mods m (by omega), hn,
    h.oe.mods m (fun g hg => by have := h.oe.lt g hg; omega), h.ok.mods m (fun g hg => by have := h.ok.lt g hg; omega), h.oi.mods m (fun g hg => by have := h.oi.lt g hg; omega)⟩
theorem RfS.sls (h : RfS w wr lf es ks is ve vk vi s1 s2 s3) (h1 : es.length ≤ 100000) (h2 : ks.length ≤ 100000) (h3 : is.length ≤ 100000) : Sl NoF wr 4 encE ve es ∧ Sl NoF wr 1 encS vk ks ∧ Sl NoF wr 1 encI vi is :=
  ⟨h.oe.sl encE_ok.len (by omega), h.ok.sl encS_ok.len (by omega), h.oi.sl encI_ok.len (by omega)⟩
end
end Go.Proofs.YtmgfneijcfjlfaaGreatDoor
