/- ref07.Right at inner nodes. | InsertDowns holds. -/
import Derived.Test.YtffhiabonigapaaGreatDoorK43
import Derived.Test.YtffhiabonigapaaGreatDoorK35
import Derived.Test.YtffhiabonigapaaGreatDoorK38
import Derived.Test.YtffhiabonigapaaGreatDoorK40
import Derived.Test.YtffhiabonigapaaGreatDoorK39
namespace Go.Proofs.YtffhiabonigapaaGreatDoor
open Go.RowKit
attribute [local go_sem ↓] Go.wp_at_zero Go.wp_at_succ
theorem nodup_few : ∀ (N : Nat) (l : List Int), l.Nodup → (∀ x ∈ l, 0 ≤ x ∧ x < (N : Int)) → l.length ≤ N
  | 0, l, _, h => by
    cases l with
    | nil => simp
    | cons x l => have := h x List.mem_cons_self; omega
  | N + 1, l, hn, h => by
    by_cases hm : (N : Int) ∈ l
    · have h1 := nodup_few N (l.erase (N : Int)) (hn.erase _) (fun x hx => by
        have h2 := (hn.mem_erase_iff).1 hx
        have h3 := h x h2.2
        have : x ≠ (N : Int) := h2.1
        omega)
      have h2 := List.length_erase_of_mem hm
      omega
    · have h1 := nodup_few N l hn (fun x hx => by
        have h3 := h x hx
        have : x ≠ (N : Int) := fun e => hm (e ▸ hx)
        omega)
      omega
theorem kids_few {l : List Int} (h1 : l.Nodup) (h2 : ∀ x ∈ l, kidB x = true) : l.length ≤ 256 :=
  nodup_few 256 l h1 (fun x hx => by have := h2 x hx; simp [kidB] at this; omega)
section
variable {F : Nat → Prop} {w w' wr w2 : World}
/-- so far kids are right, and differ. -/
def KidTo (l : List Int) (k : Nat) : Prop := (∀ x ∈ l.take k, kidB x = true) ∧ (l.take k).Nodup
theorem KidTo.next {l : List Int} {k : Nat} {x : Int} (h : KidTo l k) (hx : l[k]? = some x) (hk : kidB x = true) (hn : x ∉ l.take k) : KidTo l (k + 1) := by
  refine ⟨fun y hy => ?_, ?_⟩
  · rw [take_one l k x hx] at hy
    rcases List.mem_append.1 hy with hy | hy
    · exact h.1 y hy
    · rw [List.mem_singleton.1 hy]; exact hk
  · rw [take_one l k x hx, List.nodup_append]
    exact ⟨h.2, by simp, fun a ha b hb e => by rw [List.mem_singleton.1 hb] at e; exact hn (e ▸ ha)⟩
/-- so far keys are right, and rise. -/
def KeyTo (l : List ByteArray) (k : Nat) : Prop := (∀ x ∈ l.take k, keyB x = true) ∧ upTo l k
theorem KeyTo.first {l : List ByteArray} {x : ByteArray} (hx : l[0]? = some x) (hr : keyB x = true) : KeyTo l 1 := by
  refine ⟨fun y hy => ?_, fun i a b hi => by omega⟩
  rw [take_one l 0 x hx] at hy
  simp at hy; subst hy; exact hr
theorem KeyTo.next {l : List ByteArray} {k : Nat} {x y : ByteArray} (h : KeyTo l (k + 1)) (hx : l[k]? = some x) (hy : l[k + 1]? = some y) (hr : keyB y = true) (hl : leS y x = false) : KeyTo l (k + 2) := by
  refine ⟨fun z hz => ?_, upTo_step h.2 hx hy hl⟩
  rw [show k + 2 = k + 1 + 1 from rfl, take_one l (k + 1) y hy] at hz
  rcases List.mem_append.1 hz with hz | hz
  · exact h.1 z hz
  · rw [List.mem_singleton.1 hz]; exact hr
theorem inner_wrong {n : NodeA} (h : n.leaf = false) (hb : n.kids.all kidB = false ∨ ¬ n.kids.Nodup ∨ n.keys.all keyB = false ∨ risingS n.keys = false) : rightN n = false := by
  rw [right_inner h]
  unfold innerB
  rcases hb with hb | hb | hb | hb
  · rw [hb]; simp
  · rw [decide_eq_false hb]; simp
  · rw [hb]; simp
  · rw [hb]; simp
theorem not_nodup {l : List Int} {k : Nat} {x : Int} (hx : l[k]? = some x) (hm : x ∈ l.take k) : ¬ l.Nodup := by
  intro h
  obtain ⟨hk, rfl⟩ := List.getElem?_eq_some_iff.1 hx
  obtain ⟨i, hi, e⟩ := List.getElem_of_mem hm
  simp only [List.length_take] at hi
  rw [List.getElem_take] at e
  have := List.pairwise_iff_getElem.1 h i k (by omega) hk (by omega)
  exact this e
theorem kid07_t (n : Int) (w : World) (b : Bool) (h : kidB n = b) : Calls Tryz.prog 63 #[.int .i64 n] w fun e w' => e = .returned (.bool b) ∧ w' = w := by
  subst h
  exact (kid07_any n w).mono fun _ _ ⟨h1, h2⟩ => ⟨h1, h2.symm⟩
theorem in07_t (l : List Int) (v : Value) (hl : Sl F w 1 encI v l) (n : Int) (b : Bool) (h : decide (n ∈ l) = b) :
    Calls Tryz.prog 64 #[v, .int .i64 n] w fun x w' => x = .returned (.bool b) ∧ w' = w := by
  subst h
  exact (in07_any l v hl n).mono fun _ _ ⟨h1, h2⟩ => ⟨h1, h2.symm⟩
theorem key07_q (s : ByteArray) (w : World) (b : Bool) (h : keyB s = b) : Calls Tryz.prog 23 #[.string s] w fun e w' => e = .returned (.bool b) ∧ w' = w :=
  (key07_t s w b h).mono fun _ _ ⟨h1, h2⟩ => ⟨h1, h2.symm⟩
set_option maxRecDepth 100000 in
set_option maxHeartbeats 4000000 in
theorem right07I_any (n : NodeA) (hlf : n.leaf = false) (ve vk vi : Value) (hve : Sl F w 4 encE ve n.entries) (hvk : Sl F w 1 encS vk n.keys) (hvi : Sl F w 1 encI vi n.kids) :
    Calls Tryz.prog 15 #[.agg #[.bool false, ve, vk, vi]] w fun x w' => x = .returned (.bool (rightN n)) ∧ Ext w w' := by
  obtain ⟨ea, ec, rfl, e1, e2, e3, _⟩ := hve
  obtain ⟨ka, kc, rfl, k1, k2, k3, hkk⟩ := hvk
  have HVI := Lib.hid hvi
  obtain ⟨ia, ic, rfl, i1, i2, i3, hii⟩ := hvi
  unfold maxLen at e2 k2 i2
  obtain ⟨el, hel⟩ : ∃ el, el = n.entries.length := ⟨_, rfl⟩
  rw [← hel] at e1 e3 ⊢
  have HEL := Lib.hid hel
  clear hel
  have HK := Lib.hid hkk
  have HI := Lib.hid hii
  have HW : Hid (Ext w (w.alloc (.cells #[.bool false, .slice ea el ec, .slice ka n.keys.length kc, .slice ia n.kids.length ic] 26)) ∧ Blk (w.alloc (.cells #[.bool false, .slice ea el ec, .slice ka n.keys.length kc, .slice ia n.kids.length ic] 26)) w.heap.size #[.bool false, .slice ea el ec, .slice ka n.keys.length kc, .slice ia n.kids.length ic] 26) := Lib.hid ⟨(Mods.refl _ w).alloc _, Blk.new w _ _⟩
  have HLF := Lib.hid hlf
  clear hkk hii hlf
  by_cases h1 : 0 < el
  · have HR : Hid (rightN n = false) := Lib.hid (by
      rw [right_inner HLF.out]; unfold innerB
      cases he : n.entries with
      | nil => have := HEL.out; rw [he] at this; simp at this; omega
      | cons _ _ => simp)
    have h1b : (0 : Int) < (el : Int) := by omega
    go_enter Tryz.func15, Tryz.ntmps15
    go_wp2_with fail
    go_ret
    exact ⟨by rw [HR.out]; rfl, HW.out.1⟩
  · have HE0 : Hid (n.entries = []) := Lib.hid (List.eq_nil_of_length_eq_zero (by have := HEL.out; omega))
    have h1b : ¬ (0 : Int) < (el : Int) := by omega
    by_cases h2 : n.kids.length < 2
    · have HR : Hid (rightN n = false) := Lib.hid (by
        rw [right_inner HLF.out]; unfold innerB
        rw [decide_eq_false (show ¬ 2 ≤ n.kids.length by omega)]; simp)
      have h2b : (n.kids.length : Int) < 2 := by omega
      go_enter Tryz.func15, Tryz.ntmps15
      go_wp2_with fail
      go_ret
      exact ⟨by rw [HR.out]; rfl, HW.out.1⟩
    · have h2b : ¬ (n.kids.length : Int) < 2 := by omega
      by_cases h3 : n.kids.length = n.keys.length + 1
      · have h3b : ((n.kids.length : Int) - 1 == (n.keys.length : Int)) = true := by rw [beq_iff_eq]; omega
        have h3c : ((n.kids.length : Int) - 1 != (n.keys.length : Int)) = false := by unfold bne; rw [h3b]; rfl
        have H3 := Lib.hid h3
        have HR : Hid (rightN n = (decide (n.kids.length ≤ 256) && n.kids.all kidB && decide n.kids.Nodup && n.keys.all keyB && risingS n.keys)) := Lib.hid (by
          rw [right_inner HLF.out]; unfold innerB
          rw [HE0.out, decide_eq_true (show 2 ≤ n.kids.length by omega), decide_eq_true h3]; simp)
        have H2 := Lib.hid h2
        clear h3 h2
        go_enter Tryz.func15, Tryz.ntmps15
        go_wp2_with fail
        go_loopg [4] n.kids.length (fun m v4 wr => ∃ (k : Nat), k + m = n.kids.length ∧ v4 = .int .i64 (k : Int) ∧ Hid (KidTo n.kids k) ∧ Hid (Ext w wr ∧ Blk wr w.heap.size #[.bool false, .slice ea el ec, .slice ka n.keys.length kc, .slice ia n.kids.length ic] 26))
        case atStart => exact ⟨0, by omega, rfl, Lib.hid ⟨fun x hx => by simp at hx, by simp⟩, HW⟩
        case round =>
          obtain ⟨k, hkm, rfl, HS, HW⟩ := hrel
          have hbl := HW.out.2.lt
          have b2 := HW.out.2.cell (o := 2) (v := .slice ka n.keys.length kc) rfl
          have b3 := HW.out.2.cell (o := 3) (v := .slice ia n.kids.length ic) rfl
          by_cases hlt : k < n.kids.length
          · obtain ⟨b, off, rfl, hb, hF, hc⟩ := Sl.at HI.out HW.out.1 (fun _ _ f => f.elim) k hlt
            obtain ⟨x, hx⟩ : ∃ x, n.kids[k]? = some x := ⟨_, List.getElem?_eq_getElem hlt⟩
            have hx' : n.kids[k] = x := by rw [List.getElem?_eq_getElem hlt] at hx; exact Option.some.inj hx
            rw [hx'] at hc
            have c0 : wr.cell? ⟨b, off + k, none⟩ = some (.int .i64 x) := by have := hc 0 _ rfl; simpa using this
            have HX := Lib.hid hx
            have HKX : Hid (kidB x = kidB n.kids[k]) := Lib.hid (by rw [hx'])
            clear hc hx hx'
            have j1 : (0 : Int) ≤ (k : Int) := by omega
            have j2 : (k : Int) < (n.kids.length : Int) := by omega
            have hk300 : k ≤ 254 := by
              have h9 := nodup_few 256 (n.kids.take k) HS.out.2 (fun x hx => by have := HS.out.1 x hx; simp [kidB] at this; omega)
              have h10 := nodup_few 254 ((n.kids.take k).map fun x => x - 2) (by
                rw [List.nodup_iff_pairwise_ne, List.pairwise_map]
                exact List.Pairwise.imp (fun h e => h (by omega)) HS.out.2) (fun x hx => by
                obtain ⟨y, hy, rfl⟩ := List.mem_map.1 hx
                have := HS.out.1 y hy; simp [kidB] at this; omega)
              simp only [List.length_map, List.length_take] at h10
              omega
            have d300 : decide ((300 : Int) < (k : Int)) = false := decide_eq_false (by omega)
            cases hkd : kidB x with
            | false =>
              have HR2 : Hid (rightN n = false) := Lib.hid (inner_wrong HLF.out (.inl (all_not hlt (by rw [← HKX.out]; exact hkd))))
              have HQ := Lib.hid hkd
              clear hkd
              go_wp2_with fail
              go_quiet ((go_at_call 63; exact Calls.quiet_of_same (kid07_t _ _ _ HQ.out)))
              go_wp2_with fail
              go_ret
              exact ⟨by rw [HR2.out]; rfl, HW.out.1.drewN _⟩
            | true =>
              have HQ := Lib.hid hkd
              clear hkd
              have HPRE : Hid (Sl F wr 1 encI (.slice (some ⟨b, off, none⟩) k ic) (n.kids.take k)) := Lib.hid ((HVI.out.ext HW.out.1).pre k (by omega))
              have j3 : (k : Int) ≤ (ic : Int) := by omega
              cases hin : decide (x ∈ n.kids.take k) with
              | true =>
                have HR2 : Hid (rightN n = false) := Lib.hid (inner_wrong HLF.out (.inr (.inl (not_nodup HX.out (by simpa using hin)))))
                have HN := Lib.hid hin
                clear hin
                go_wp2_with fail
                go_quiet ((first | (go_at_call 63; exact Calls.quiet_of_same (kid07_t _ _ _ HQ.out)) | (go_at_call 64; exact Calls.quiet_of_same (in07_t _ _ (HPRE.out.ext ((Mods.refl _ wr).drewN _)) _ _ HN.out))))
                go_wp2_with fail
                go_ret
                exact ⟨by rw [HR2.out]; rfl, HW.out.1.drewN _⟩
              | false =>
                have HS2 : Hid (KidTo n.kids (k + 1)) := Lib.hid (HS.out.next HX.out HQ.out (by simpa using hin))
                have HN := Lib.hid hin
                clear hin
                go_wp2_with fail
                go_quiet ((first | (go_at_call 63; exact Calls.quiet_of_same (kid07_t _ _ _ HQ.out)) | (go_at_call 64; exact Calls.quiet_of_same (in07_t _ _ (HPRE.out.ext ((Mods.refl _ wr).drewN _)) _ _ HN.out))))
                go_wp2_with fail
                go_roundg (gk - 1)
                case measure => omega
                case rel => exact ⟨k + 1, by omega, by go_num, HS2, Lib.hid ⟨HW.out.1.drewN _, HW.out.2.ext ((Mods.refl _ _).drewN _)⟩⟩
          · have HKS : Hid (n.kids.all kidB = true ∧ n.kids.Nodup ∧ n.kids.length ≤ 256) := Lib.hid (by
              have h9 := HS.out
              unfold KidTo at h9
              rw [List.take_of_length_le (by omega)] at h9
              exact ⟨List.all_eq_true.2 h9.1, h9.2, kids_few h9.2 h9.1⟩)
            have HR2 : Hid (rightN n = (n.keys.all keyB && risingS n.keys)) := Lib.hid (by
              rw [HR.out, HKS.out.1, decide_eq_true HKS.out.2.1, decide_eq_true HKS.out.2.2]; simp)
            obtain ⟨w5, hw5⟩ : ∃ w5, w5 = wr := ⟨_, rfl⟩
            have HW5 : Hid (Ext w w5 ∧ Blk w5 w.heap.size #[.bool false, .slice ea el ec, .slice ka n.keys.length kc, .slice ia n.kids.length ic] 26) := Lib.hid (by rw [hw5]; exact HW.out)
            rw [← hw5] at b2 b3 ⊢
            clear hw5 HS HKS HW hbl wr
            go_wp2_with fail
            go_loopg [5] n.keys.length (fun m v5 wr => ∃ (k : Nat), k + m = n.keys.length ∧ v5 = .int .i64 (k : Int) ∧ Hid (KeyTo n.keys k) ∧ Hid (Ext w wr ∧ Blk wr w.heap.size #[.bool false, .slice ea el ec, .slice ka n.keys.length kc, .slice ia n.kids.length ic] 26))
            case atStart => exact ⟨0, by omega, rfl, Lib.hid ⟨fun x hx => by simp at hx, fun i a b hi => by omega⟩, HW5⟩
            case round =>
              obtain ⟨k, hkm, rfl, HS, HW⟩ := hrel
              have hbl := HW.out.2.lt
              have b2 := HW.out.2.cell (o := 2) (v := .slice ka n.keys.length kc) rfl
              by_cases hlt : k < n.keys.length
              · obtain ⟨b, off, rfl, hb, hF, hc⟩ := Sl.at HK.out HW.out.1 (fun _ _ f => f.elim) k hlt
                obtain ⟨x, hx⟩ : ∃ x, n.keys[k]? = some x := ⟨_, List.getElem?_eq_getElem hlt⟩
                have hx' : n.keys[k] = x := by rw [List.getElem?_eq_getElem hlt] at hx; exact Option.some.inj hx
                rw [hx'] at hc
                have c0 : wr.cell? ⟨b, off + k, none⟩ = some (.string x) := by have := hc 0 _ rfl; simpa using this
                have HX := Lib.hid hx
                have HKX : Hid (keyB x = keyB n.keys[k]) := Lib.hid (by rw [hx'])
                clear hc hx hx'
                have j1 : (0 : Int) ≤ (k : Int) := by omega
                have j2 : (k : Int) < (n.keys.length : Int) := by omega
                cases hkd : keyB x with
                | false =>
                  have HR3 : Hid (rightN n = false) := Lib.hid (inner_wrong HLF.out (.inr (.inr (.inl (all_not hlt (by rw [← HKX.out]; exact hkd))))))
                  have HQ := Lib.hid hkd
                  clear hkd
                  go_wp2_with fail
                  go_quiet ((go_at_call 23; exact Calls.quiet_of_same (key07_q _ _ _ HQ.out)))
                  go_wp2_with fail
                  go_ret
                  exact ⟨by rw [HR3.out]; rfl, HW.out.1.drewN _⟩
                | true =>
                  have HQ := Lib.hid hkd
                  clear hkd
                  by_cases hk0 : k = 0
                  · have d1 : decide ((0 : Int) < (k : Int)) = false := decide_eq_false (by omega)
                    have d2 : decide (0 < k) = false := decide_eq_false (by omega)
                    have HS2 : Hid (KeyTo n.keys (k + 1)) := Lib.hid (by
                      have h0 := HX.out
                      rw [hk0] at h0 ⊢
                      exact KeyTo.first h0 HQ.out)
                    clear hk0
                    go_wp2_with fail
                    go_quiet ((go_at_call 23; exact Calls.quiet_of_same (key07_q _ _ _ HQ.out)))
                    go_wp2_with fail
                    go_roundg (gk - 1)
                    case measure => omega
                    case rel => exact ⟨k + 1, by omega, by go_num, HS2, Lib.hid ⟨HW.out.1.drewN _, HW.out.2.ext ((Mods.refl _ _).drewN _)⟩⟩
                  · obtain ⟨q, hkq⟩ : ∃ q, k = q + 1 := ⟨k - 1, by omega⟩
                    have HKQ := Lib.hid hkq
                    have d1 : decide ((0 : Int) < (k : Int)) = true := decide_eq_true (by omega)
                    have d2 : decide (0 < k) = true := decide_eq_true (by omega)
                    obtain ⟨b', off', hbb, _, _, hd⟩ := Sl.at HK.out HW.out.1 (fun _ _ f => f.elim) q (by omega)
                    injection hbb with hbb
                    injection hbb with hbb1 hbb2
                    subst hbb1 hbb2
                    obtain ⟨y, hy⟩ : ∃ y, n.keys[q]? = some y := ⟨_, List.getElem?_eq_getElem (by omega)⟩
                    have hy' : n.keys[q] = y := by rw [List.getElem?_eq_getElem (by omega)] at hy; exact Option.some.inj hy
                    rw [hy'] at hd
                    have g0 : wr.cell? ⟨b, off + q, none⟩ = some (.string y) := by have := hd 0 _ rfl; simpa using this
                    have HY := Lib.hid hy
                    have j3 : (0 : Int) ≤ (q : Int) := by omega
                    have j4 : (q : Int) < (n.keys.length : Int) := by omega
                    have hw0 : (k : Int) - 1 = (q : Int) := by omega
                    have hw1 : IntKind.i64.wrap ((k : Int) - 1) = (q : Int) := by rw [hw0]; exact IntWalk.i64_in _ (by omega)
                    have hw2 : IntKind.i64.wrap (q : Int) = (q : Int) := IntWalk.i64_in _ (by omega)
                    have HX1 : Hid (n.keys[q + 1]? = some x) := Lib.hid (by rw [← hkq]; exact HX.out)
                    clear hd hy hy' hk0 hkq
                    cases hle : leS x y with
                    | true =>
                      have HR3 : Hid (rightN n = false) := Lib.hid (inner_wrong HLF.out (.inr (.inr (.inr (not_rising (k := q) HY.out HX1.out hle)))))
                      have t2 : (Op.bytesLess x.toList y.toList || x.toList == y.toList) = true := hle
                      clear hle
                      go_wp2_with fail
                      go_quiet ((go_at_call 23; exact Calls.quiet_of_same (key07_q _ _ _ HQ.out)))
                      go_wp2_with fail
                      go_ret
                      exact ⟨by rw [HR3.out]; rfl, HW.out.1.drewN _⟩
                    | false =>
                      have HS2 : Hid (KeyTo n.keys (k + 1)) := Lib.hid (by
                        have h0 := HS.out
                        rw [HKQ.out] at h0 ⊢
                        exact h0.next HY.out HX1.out HQ.out hle)
                      have t2 : (Op.bytesLess x.toList y.toList || x.toList == y.toList) = false := hle
                      clear hle
                      go_wp2_with fail
                      go_quiet ((go_at_call 23; exact Calls.quiet_of_same (key07_q _ _ _ HQ.out)))
                      go_wp2_with fail
                      go_roundg (gk - 1)
                      case measure => omega
                      case rel => exact ⟨k + 1, by omega, by go_num, HS2, Lib.hid ⟨HW.out.1.drewN _, HW.out.2.ext ((Mods.refl _ _).drewN _)⟩⟩
              · have HR3 : Hid (rightN n = true) := Lib.hid (by
                  have h9 := HS.out
                  rw [HR2.out, all_done (k := k) (by omega) h9.1, upTo_all h9.2 (by omega)]; rfl)
                go_wp2_with fail
                go_ret
                exact ⟨by rw [HR3.out]; rfl, HW.out.1⟩
      · have h3b : ((n.kids.length : Int) - 1 == (n.keys.length : Int)) = false := by rw [beq_eq_false_iff_ne]; omega
        have h3c : ((n.kids.length : Int) - 1 != (n.keys.length : Int)) = true := by unfold bne; rw [h3b]; rfl
        have HR : Hid (rightN n = false) := Lib.hid (by
          rw [right_inner HLF.out]; unfold innerB
          rw [decide_eq_false h3]; simp)
        clear h3
        go_enter Tryz.func15, Tryz.ntmps15
        go_wp2_with fail
        go_ret
        exact ⟨by rw [HR.out]; rfl, HW.out.1⟩
theorem right07_t (n : NodeA) (ve vk vi : Value) (hve : Sl F w 4 encE ve n.entries) (hvk : Sl F w 1 encS vk n.keys) (hvi : Sl F w 1 encI vi n.kids) (b : Bool) (hb : rightN n = b) :
    Calls Tryz.prog 15 #[.agg #[.bool n.leaf, ve, vk, vi]] w fun x w' => x = .returned (.bool b) ∧ Ext w w' := by
  subst hb
  cases hl : n.leaf with
  | true => exact right07L_any n hl ve vk vi hve hvk hvi
  | false => exact right07I_any n hl ve vk vi hve hvk hvi
end
end Go.Proofs.YtffhiabonigapaaGreatDoor
namespace Go.Proofs.YtffhiabonigapaaGreatDoor
open Go.RowKit
attribute [local go_sem ↓] Go.wp_at_zero Go.wp_at_succ
theorem down_node' {G : GA} {l : List Nat} {gen old i : Nat} {n : NodeA} (hd : downI G l old n = some i) (hi : i < G.blocks) : (downG G l gen old n).node i = some n := by
  have hr := (downI_ok hd).1
  have hv : (downG G l gen old n).view i = some (.inl ⟨kindA n, (i : Int), gen, bytesN n⟩) := by
    unfold downG
    rw [hd]
    simp only
    rw [put_view, if_pos (by simp)]
  unfold GA.node
  rw [(downG_lim G l gen old n).2.1, if_pos hi, hv]
  simp only
  have hdec : decodeA ⟨kindA n, (i : Int), gen, bytesN n⟩ = .inl n := by
    unfold decodeA kindA
    cases hl : n.leaf with
    | true =>
      have := (getN_iff true (bytesN n) n).2 ⟨hr, hl, rfl⟩
      simp [this]
    | false =>
      have := (getN_iff false (bytesN n) n).2 ⟨hr, hl, rfl⟩
      simp [this]
  rw [hdec]
/-- the blocks when a node is put down. -/
def dnT : List Nat := (spNew 20).set 2 2
def dnL (r : Nat) : List Nat := if r = 1 then spCommit dnT else dnT
def dnOld (r : Nat) : Nat := if r = 2 then 0 else 2
def dnWant (r : Nat) : Nat := if r = 0 then 2 else 3
theorem dn_facts : ∀ r, r < 3 → (dnL r).length = 20 ∧ (dnL r)[0]? = some 1 ∧ (dnL r)[1]? = some 1 ∧ (dnOld r = 0 ∨ (dnL r)[2]? = some 1 ∨ (dnL r)[2]? = some 2) ∧ placeI (dnL r) (dnOld r) = some (dnWant r) ∧ spFresh (placeL (dnL r) (dnOld r)) (dnWant r : Int) = true ∧ (r = 1 → spCount (placeL (dnL r) (dnOld r)) = 16) := by decide +kernel
theorem rightN_keys' {n : NodeA} (h : rightN n = true) (hl : n.leaf = false) : ∀ s ∈ n.keys, keyB s = true := by
  unfold rightN at h
  rw [if_neg (by rw [hl]; simp)] at h
  simp only [Bool.and_eq_true, List.all_eq_true] at h
  exact h.1.2
theorem few_bytes {n : NodeA} (h1 : n.entries.length ≤ 60) (h2 : n.kids.length ≤ 60) (hr : rightN n = true) : (bytesN n).length ≤ 100000 := by
  have hw := weight_len (form_right hr)
  have e : ∀ (es : List EntryA), (∀ x ∈ es, rightE x = true) → sumE es ≤ 100 * es.length := fun es => by
    induction es with
    | nil => intro _; simp [sumE]
    | cons x es ih =>
      intro h
      have h3 := ih (fun y hy => h y (List.mem_cons_of_mem _ hy))
      have h4 := h x List.mem_cons_self
      unfold rightE at h4
      simp only [Bool.and_eq_true] at h4
      have h5 := (keyB_iff x.key).1 h4.1
      have : weightE x ≤ 100 := by
        unfold weightE
        split
        · rename_i hz
          rw [if_pos hz] at h4
          simp only [Bool.and_eq_true, decide_eq_true_eq] at h4
          omega
        · omega
      simp only [sumE, List.length_cons]
      omega
  have k : ∀ (ks : List ByteArray), (∀ x ∈ ks, keyB x = true) → sumK ks ≤ 100 * ks.length := fun ks => by
    induction ks with
    | nil => intro _; simp [sumK]
    | cons x ks ih =>
      intro h
      have h3 := ih (fun y hy => h y (List.mem_cons_of_mem _ hy))
      have h5 := (keyB_iff x).1 (h x List.mem_cons_self)
      simp only [sumK, List.length_cons]
      omega
  unfold weightN at hw
  cases hl : n.leaf with
  | true =>
    have hf := form_right hr
    unfold formN at hf
    rw [if_pos hl] at hf
    have := e n.entries (fun x hx => by
      obtain ⟨i, hi, hxe⟩ := List.getElem_of_mem hx
      exact right_entry hl hr (k := i) (by rw [← hxe]; exact List.getElem?_eq_getElem hi))
    rw [hl, hf.1] at hw
    simp only [sumK, if_true] at hw
    omega
  | false =>
    have hf := form_right hr
    unfold formN at hf
    rw [if_neg (by rw [hl]; simp)] at hf
    have := k n.keys (rightN_keys' hr hl)
    rw [hl, hf.1] at hw
    simp only [sumE, Bool.false_eq_true, if_false] at hw
    omega
set_option maxRecDepth 100000 in
set_option maxHeartbeats 4000000 in
theorem InsertDowns_any {ad : Nat → Addr} {w : World} (hL : Env NoB ad w) (hfu : Full ad) (n : NodeA) (ve vk vi : Value) (hve : Sl NoB w 4 encE ve n.entries) (hvk : Sl NoB w 1 encS vk n.keys) (hvi : Sl NoB w 1 encI vi n.kids) (q : Nat) (hq : q < 256) :
    Calls Tryz.prog 5 #[.agg #[.bool n.leaf, ve, vk, vi], .int .u8 (q : Int)] w fun e w' => e = .returned (.bool true) ∧ Ext w w' := by
  obtain ⟨lf, hlf⟩ : ∃ lf, n.leaf = lf := ⟨_, rfl⟩
  rw [hlf]
  have HVE := Lib.hid hve
  have HVK := Lib.hid hvk
  have HVI := Lib.hid hvi
  obtain ⟨ea, ec, rfl, he1, he2, he3, _⟩ := hve
  obtain ⟨ka, kc, rfl, _, _, _, _⟩ := hvk
  obtain ⟨ia, ic, rfl, hi1, hi2, hi3, _⟩ := hvi
  have m0 : Ext w (w.alloc (.cells #[.bool lf, .slice ea n.entries.length ec, .slice ka n.keys.length kc, .slice ia n.kids.length ic] 26)) := (Mods.refl _ w).alloc _
  have HB0 := Lib.hid (Blk.new w #[.bool lf, .slice ea n.entries.length ec, .slice ka n.keys.length kc, .slice ia n.kids.length ic] 26)
  have HL := Lib.hid (hL.mods m0.ext)
  have HFU := Lib.hid hfu
  have M0 := Lib.hid m0
  have HLF := Lib.hid hlf
  obtain ⟨r, hr⟩ : ∃ r, r = q % 3 := ⟨_, rfl⟩
  have hr3 : r < 3 := by omega
  have e1 : (q : Int).tmod 3 = (r : Int) := by rw [Int.tmod_eq_emod_of_nonneg (by omega)]; omega
  clear hL hfu m0 hlf hr
  go_enter Tryz.func5, Tryz.ntmps5
  go_wp2_with fail
  refine (pager13_any HL.out 20 (by omega) (by omega)).mono ?_
  rintro e w1 ⟨c, s, P, F, rfl, hG, hN⟩
  have hS := LG.startZ (gen := 5) hG hN 5 rfl
  have t0 := hS.c0
  have t1 := hS.c1
  have t2 : _ = some (Value.int .u64 5) := hS.c2
  have n1 := (hS.old HB0.out).cell (o := 1) (v := .slice ea n.entries.length ec) rfl
  have n3 := (hS.old HB0.out).cell (o := 3) (v := .slice ia n.kids.length ic) rfl
  have HS := Lib.hid hS
  rw [pgV5]
  clear hG hN hS
  by_cases hbig : 60 < n.entries.length ∨ 60 < n.kids.length
  · have HAW := Lib.hid (awake13_any (HS.out.env.anti (Q := NoB) (fun _ f => f.elim)))
    by_cases hb1 : (60 : Int) < (n.entries.length : Int)
    all_goals
      first
        | have hb2 : (60 : Int) < (n.kids.length : Int) := by omega
        | skip
      clear hbig
      go_wp2_with fail
      refine HAW.out.mono ?_
      rintro e w2 ⟨rfl, hm2⟩
      go_wp2_with fail
      go_ret
      exact ⟨rfl, M0.out.trans (HS.out.ext0.trans hm2)⟩
  · have hb1 : ¬ (60 : Int) < (n.entries.length : Int) := by omega
    have hb2 : ¬ (60 : Int) < (n.kids.length : Int) := by omega
    have HBY := Lib.hid (few_bytes (n := n) (by omega) (by omega))
    have HTK := Lib.hid (pgTake HS.out.env HS.out.sub HS.out.pg)
    clear hbig
    go_wp2_with fail
    refine HTK.out.mono ?_
    rintro e w2 ⟨P2, F2, hG2, hN2, ⟨i, hi, _, rfl⟩ | ⟨hi, _⟩⟩
    · rw [free_new 20 (by omega)] at hi
      injection hi with hi
      subst hi
      have hS2 := HS.out.step hN2 hG2
      have hl2 : spTake (spNew 20) = dnT := by unfold spTake; rw [free_new 20 (by omega)]; rfl
      rw [hl2] at hS2
      have t0 := hS2.c0
      have t1 := hS2.c1
      have t2 : _ = some (Value.int .u64 5) := hS2.c2
      have HS2 := Lib.hid hS2
      clear hG2 hN2 hS2
      go_upto_if 47 with fail
      go_cut [9] (fun v9 wx => ∃ (P3 F3 : Nat → Prop) (wn : Nat), v9 = .int .i64 (wn : Int) ∧ Hid (wn = if r = 1 then 3 else 2) ∧ Hid (LG ad _ wx w1.heap.size c s 5 P3 F3 (G0 20) (dnL r)))
      case first =>
        by_cases hr1 : r = 1
        · subst hr1
          have HCM := Lib.hid (pgCommit HS2.out.env HS2.out.sub HS2.out.pg)
          go_wp2_with fail
          refine HCM.out.mono ?_
          rintro e w3 ⟨P3, F3, hG3, hN3, rfl⟩
          have HS3 := Lib.hid (HS2.out.step hN3 hG3)
          clear hG3 hN3
          go_wp2_with fail
          go_meet
          exact ⟨P3, F3, 3, rfl, Lib.hid rfl, HS3⟩
        · have hr2 : ¬ (r : Int) = 1 := by omega
          go_wp2_with fail
          go_meet
          exact ⟨P2, F2, 2, rfl, Lib.hid (by rw [if_neg hr1]), Lib.hid (by unfold dnL; rw [if_neg hr1]; exact HS2.out)⟩
      obtain ⟨P3, F3, wn, rfl, HWN, HS3⟩ := hcut
      go_upto_if 55 with fail
      go_cut [7, 9] (fun v7 v9 wx => v7 = .int .i64 (dnOld r : Int) ∧ v9 = .int .i64 (dnWant r : Int) ∧ Hid (wx = wc))
      case first =>
        by_cases hr2 : r = 2
        · subst hr2
          go_wp2_with fail
          go_meet
          exact ⟨rfl, rfl, Lib.hid rfl⟩
        · have hr4 : ¬ (r : Int) = 2 := by omega
          go_wp2_with fail
          go_meet
          exact ⟨by unfold dnOld; rw [if_neg hr2]; rfl, by
            have e : dnWant r = if r = 1 then 3 else 2 := by
              unfold dnWant
              rcases Nat.eq_zero_or_pos r with h | h
              · subst h; rfl
              · obtain rfl : r = 1 := by omega
                rfl
            rw [e, HWN.out], Lib.hid rfl⟩
      obtain ⟨rfl, rfl, HE⟩ := hcut
      obtain rfl := HE.out
      obtain ⟨d1, d2, d3, d4, d5, d6, d7⟩ := dn_facts r hr3
      obtain ⟨old, hold⟩ : ∃ old, old = dnOld r := ⟨_, rfl⟩
      obtain ⟨want, hwant⟩ : ∃ want, want = dnWant r := ⟨_, rfl⟩
      rw [← hold] at d4 d5 d6 d7 ⊢
      rw [← hwant] at d5 d6 ⊢
      have hplace : PlaceOf (dnL r) old := by
        rcases d4 with h | h
        · exact .inl h
        · by_cases h0 : old = 0
          · exact .inl h0
          · have : old = 2 := by rw [hold] at h0 ⊢; unfold dnOld at h0 ⊢; split at h0 <;> simp_all
            rw [this]
            exact .inr ⟨by omega, h⟩
      have hwl : want < 20 := by have := placeI_lt d5; omega
      have t0 := HS3.out.c0
      have t1 := HS3.out.c1
      have t2 : _ = some (Value.int .u64 5) := HS3.out.c2
      have n0 := (HS3.out.old HB0.out).cell (o := 0) (v := .bool lf) rfl
      have n1 := (HS3.out.old HB0.out).cell (o := 1) (v := .slice ea n.entries.length ec) rfl
      have n2 := (HS3.out.old HB0.out).cell (o := 2) (v := .slice ka n.keys.length kc) rfl
      have n3 := (HS3.out.old HB0.out).cell (o := 3) (v := .slice ia n.kids.length ic) rfl
      have HDW := down_any HS3.out.env HS3.out.sub HS3.out.pg 5 old (by omega) n _ _ _ (HS3.out.sl (HVE.out.ext M0.out)) (HS3.out.sl (HVK.out.ext M0.out)) (HS3.out.sl (HVI.out.ext M0.out)) HBY.out hplace.ok hplace.two (by have := hplace.lt (by rw [d1]; omega); omega) (by rw [d1]; exact Nat.le_refl 20) (by show 0 < 1000000; omega)
      rw [HLF.out, pgV5] at HDW
      have HDW := Lib.hid HDW
      have HD5 := Lib.hid d5
      have HD6 := Lib.hid d6
      have HD7 := Lib.hid d7
      clear d1 d2 d3 d4 d5 d6 d7 hplace hold hwant
      go_wp2_with fail
      refine HDW.out.mono ?_
      rintro e w4 ⟨P4, F4, hG4, hN4, hr4⟩
      have hS4 := HS3.out.step hN4 hG4
      have t0 := hS4.c0
      have t1 := hS4.c1
      have t2 : _ = some (Value.int .u64 5) := hS4.c2
      have n0 := (hS4.old HB0.out).cell (o := 0) (v := .bool lf) rfl
      have n1 := (hS4.old HB0.out).cell (o := 1) (v := .slice ea n.entries.length ec) rfl
      have n2 := (hS4.old HB0.out).cell (o := 2) (v := .slice ka n.keys.length kc) rfl
      have n3 := (hS4.old HB0.out).cell (o := 3) (v := .slice ia n.kids.length ic) rfl
      have HSE := Lib.hid (hS4.sl (HVE.out.ext M0.out))
      have HSK := Lib.hid (hS4.sl (HVK.out.ext M0.out))
      have HSI := Lib.hid (hS4.sl (HVI.out.ext M0.out))
      obtain ⟨rb, hrb⟩ : ∃ rb, rightN n = rb := ⟨_, rfl⟩
      have HRT := right07_t n _ _ _ HSE.out HSK.out HSI.out rb hrb
      rw [HLF.out] at HRT
      have HRT := Lib.hid HRT
      have hrb2 := Lib.hid hrb
      have HS4 := Lib.hid hS4
      clear hG4 hN4 hS4
      have HAW := fun W (m : Ext w4 W) => awake13_any ((HS4.out.env.anti (Q := NoB) (fun _ f => f.elim)).mods m.ext)
      have HAW := Lib.hid HAW
      rcases hr4 with ⟨i, hi, rfl⟩ | ⟨hi, f, el, rfl, hE⟩
      · have hdok := downI_ok hi
        have hiw : i = want := by
          unfold downI at hi
          rw [if_pos hdok, HD5.out] at hi
          exact (Option.some.inj hi).symm
        subst hiw
        have hrt : rb = true := by rw [← hrb2.out]; exact hdok.1
        subst hrt
        have hwt : weightN n ≤ 232 := by have := hdok.2; have h2 : (G0 20).size = 256 := rfl; rw [h2] at this; omega
        have HWT := weight13_any n _ _ _ HSE.out HSK.out HSI.out (okB_right hdok.1) (HBY.out hdok.1) lf HLF.out
        have hwb : ((bytesN n).length : Int) = weightN n := (weight_len (form_right hdok.1)).symm
        obtain ⟨W, hW⟩ : ∃ W, W = (bytesN n).length := ⟨_, rfl⟩
        rw [← hW] at HWT hwb
        have hW2 : ¬ (232 : Int) < (W : Int) := by omega
        have HND := down_node' (gen := 5) hi (by show i < 20; exact hwl)
        obtain ⟨kn, ld⟩ := GA.node_load HND
        have HKN := Lib.hid kn
        have HLDE := Lib.hid ld
        have HWB := Lib.hid hW
        clear HWT
        have HFS := Lib.hid (fun W (m : Ext w4 W) => pgFresh (HS4.out.pg.at m) (i : Int))
        have hdl : downL (G0 20) (dnL r) old n = placeL (dnL r) old := by unfold downL; rw [if_pos hdok]
        have HDL := Lib.hid hdl
        have HDR := Lib.hid hdok.1
        clear hi hdok hrb2 hwt hwb hW HND kn ld hdl
        go_wp2_with fail
        refine HRT.out.mono ?_
        rintro e w5 ⟨rfl, hm5⟩
        have n0 := cellE hm5 n0
        have n1 := cellE hm5 n1
        have n2 := cellE hm5 n2
        have n3 := cellE hm5 n3
        have t0 := cellE hm5 t0
        have t1 := cellE hm5 t1
        have t2 := cellE hm5 t2
        have HX5 := Lib.hid hm5
        clear hm5
        go_wp2_with fail
        refine (show Calls Tryz.prog 17 #[.agg #[.bool lf, .slice ea n.entries.length ec, .slice ka n.keys.length kc, .slice ia n.kids.length ic]] w5 (fun e w' => e = .returned (.int .i64 (W : Int)) ∧ Ext w5 w') from by
          rw [HWB.out]
          exact weight13_any n _ _ _ (HSE.out.ext HX5.out) (HSK.out.ext HX5.out) (HSI.out.ext HX5.out) (okB_right HDR.out) (HBY.out HDR.out) lf HLF.out).mono ?_
        rintro e w6 ⟨rfl, hm6⟩
        have n0 := cellE hm6 n0
        have n1 := cellE hm6 n1
        have n2 := cellE hm6 n2
        have n3 := cellE hm6 n3
        have t0 := cellE hm6 t0
        have t1 := cellE hm6 t1
        have t2 := cellE hm6 t2
        have HX6 := Lib.hid (HX5.out.trans hm6)
        have HS6 := Lib.hid (HS4.out.ext (HX5.out.trans hm6))
        have HLD6 := load_any HS6.out.env HS6.out.sub HS6.out.pg 5 (i : Int) HKN.out
        rw [pgV5, HLDE.out] at HLD6
        have HLD6 := Lib.hid HLD6
        clear hm6
        go_wp2_with fail
        refine HLD6.out.mono ?_
        rintro e w7 ⟨P7, F7, hG7, hN7, ue, uk, ui, rfl, hue, huk, hui⟩
        rw [HLF.out]
        obtain ⟨xa, xc, rfl, _, _, _, _⟩ := _root_.id hue
        obtain ⟨ya, yc, rfl, _, _, _, _⟩ := _root_.id huk
        obtain ⟨za, zc, rfl, _, _, _, _⟩ := _root_.id hui
        obtain ⟨w8, hw8⟩ : ∃ w8, w8 = w7.alloc (.cells #[.bool lf, .slice xa n.entries.length xc, .slice ya n.keys.length yc, .slice za n.kids.length zc] 26) := ⟨_, rfl⟩
        have hm8 : Ext w7 w8 := by rw [hw8]; exact (Mods.refl _ _).alloc _
        have HS8 := Lib.hid ((HS6.out.step hN7 hG7).ext hm8)
        have n0 := (HS8.out.old HB0.out).cell (o := 0) (v := .bool lf) rfl
        have n1 := (HS8.out.old HB0.out).cell (o := 1) (v := .slice ea n.entries.length ec) rfl
        have n2 := (HS8.out.old HB0.out).cell (o := 2) (v := .slice ka n.keys.length kc) rfl
        have n3 := (HS8.out.old HB0.out).cell (o := 3) (v := .slice ia n.kids.length ic) rfl
        have t1 := HS8.out.c1
        have HSM := same07_eq n _ _ _ _ _ _ (hue.ext hm8) (huk.ext hm8) (hui.ext hm8) (HS8.out.sl (HVE.out.ext M0.out)) (HS8.out.sl (HVK.out.ext M0.out)) (HS8.out.sl (HVI.out.ext M0.out))
        rw [HLF.out] at HSM
        have HSM := Lib.hid HSM
        have HFS8 := Lib.hid (fun W (m : Ext w8 W) => pgFresh (HS8.out.pg.at m) (i : Int))
        have HFC8 := Lib.hid (fun W (m : Ext w8 W) => pgFree (HS8.out.pg.at m))
        have HAW8 := Lib.hid (fun W (m : Ext w8 W) => awake13_any ((HS8.out.env.anti (Q := NoB) (fun _ f => f.elim)).mods m.ext))
        have HFV : Hid (spFresh (downL (G0 20) (dnL r) old n) (i : Int) = true) := Lib.hid (by rw [HDL.out]; exact HD6.out)
        clear hG7 hN7 hue huk hui hm8 t0 t2
        subst hw8
        by_cases hr1 : r = 1
        all_goals
          first
            | (subst hr1; have HCN : Hid (spCount (downL (G0 20) (dnL 1) old n) = 16) := Lib.hid (by rw [HDL.out]; exact HD7.out rfl))
            | have hr5 : ¬ (r : Int) = 1 := by omega
          go_wp2_with fail
          refine HSM.out.mono ?_
          rintro e w9 ⟨rfl, hm9⟩
          have t1 := cellE hm9 t1
          have HX9 := Lib.hid hm9
          clear hm9
          go_wp2_with fail
          refine (HFS8.out _ HX9.out).mono ?_
          rintro e w10 ⟨rfl, rfl⟩
          rw [HFV.out]
          go_wp2_with fail
          first
            | (refine (HAW8.out _ HX9.out).mono ?_
               rintro e w11 ⟨rfl, hm11⟩
               go_wp2_with fail
               go_ret
               exact ⟨rfl, M0.out.trans (HS8.out.ext0.trans (HX9.out.trans hm11))⟩)
            | (refine (HFC8.out _ HX9.out).mono ?_
               rintro e w11 ⟨rfl, rfl⟩
               rw [HCN.out]
               go_wp2_with fail
               refine (HAW8.out _ HX9.out).mono ?_
               rintro e w11 ⟨rfl, hm11⟩
               go_wp2_with fail
               go_ret
               exact ⟨rfl, M0.out.trans (HS8.out.ext0.trans (HX9.out.trans hm11))⟩)
      · have hdk : downK (G0 20) n = 1 := by
          unfold downI at hi
          unfold downK
          by_cases hd : downOk n (G0 20).size
          · rw [if_pos hd, HD5.out] at hi; cases hi
          · rw [if_neg hd]
        have hdn : ¬ downOk n (G0 20).size := fun hd => by unfold downK at hdk; rw [if_pos hd] at hdk; omega
        rw [hdk] at hE
        have HE := Lib.hid hE
        have HTL := Lib.hid (fun W (m : Ext w4 W) => tells13_k (HS4.out.env.mods m.ext) HFU.out (HE.out.mods m.ext) 1 (by omega) rfl)
        clear hi hE hdk
        cases rb with
        | false =>
          clear hdn
          go_wp2_with fail
          refine HRT.out.mono ?_
          rintro e w5 ⟨rfl, hm5⟩
          have HX5 := Lib.hid hm5
          clear hm5
          go_wp2_with fail
          refine (HTL.out _ HX5.out).mono ?_
          rintro e w6 ⟨rfl, rfl⟩
          go_wp2_with fail
          refine (HAW.out _ HX5.out).mono ?_
          rintro e w6 ⟨rfl, hm6⟩
          go_wp2_with fail
          go_ret
          exact ⟨rfl, M0.out.trans (HS4.out.ext0.trans (HX5.out.trans hm6))⟩
        | true =>
          have hR := hrb2.out
          have hwt : ¬ weightN n ≤ 232 := fun h => hdn ⟨hR, h⟩
          have hwb : ((bytesN n).length : Int) = weightN n := (weight_len (form_right hR)).symm
          obtain ⟨W, hW⟩ : ∃ W, W = (bytesN n).length := ⟨_, rfl⟩
          rw [← hW] at hwb
          have hW2 : (232 : Int) < (W : Int) := by omega
          have HWB := Lib.hid hW
          have HDR := Lib.hid hR
          clear hdn hwt hwb hW hR hrb2
          go_wp2_with fail
          refine HRT.out.mono ?_
          rintro e w5 ⟨rfl, hm5⟩
          have n0 := cellE hm5 n0
          have n1 := cellE hm5 n1
          have n2 := cellE hm5 n2
          have n3 := cellE hm5 n3
          have HX5 := Lib.hid hm5
          clear hm5
          go_wp2_with fail
          refine (show Calls Tryz.prog 17 #[.agg #[.bool lf, .slice ea n.entries.length ec, .slice ka n.keys.length kc, .slice ia n.kids.length ic]] w5 (fun e w' => e = .returned (.int .i64 (W : Int)) ∧ Ext w5 w') from by
            rw [HWB.out]
            exact weight13_any n _ _ _ (HSE.out.ext HX5.out) (HSK.out.ext HX5.out) (HSI.out.ext HX5.out) (okB_right HDR.out) (HBY.out HDR.out) lf HLF.out).mono ?_
          rintro e w6 ⟨rfl, hm6⟩
          have HX6 := Lib.hid (HX5.out.trans hm6)
          clear hm6
          go_wp2_with fail
          refine (HTL.out _ HX6.out).mono ?_
          rintro e w7 ⟨rfl, rfl⟩
          go_wp2_with fail
          refine (HAW.out _ HX6.out).mono ?_
          rintro e w8 ⟨rfl, hm8⟩
          go_wp2_with fail
          go_ret
          exact ⟨rfl, M0.out.trans (HS4.out.ext0.trans (HX6.out.trans hm8))⟩
    · rw [free_new 20 (by omega)] at hi; cases hi
end Go.Proofs.YtffhiabonigapaaGreatDoor
