/- slices.Index, slices.Contains at []int. | node.leaf, node.inner, node.Check. | node.inner, node.Check. | node.Check. | node.Put. | node.Put, walked. -/
import Derived.Test.YtmgfneijcfjlfaaGreatDoorK24
import Derived.Test.YtmgfneijcfjlfaaGreatDoorK22
namespace Go.Proofs.YtmgfneijcfjlfaaGreatDoor
open Go.RowKit
section
variable {F : Nat → Prop} {ad : Nat → Addr} {w w' : World}
theorem mem_take_succ {α : Type} {l : List α} {k : Nat} {x : α} (hk : k < l.length) (h : x ∉ l.take k) (hx : l[k] ≠ x) : x ∉ l.take (k + 1) := by
  rw [take_one l k l[k] (by simp [hk])]
  intro hm
  rcases List.mem_append.1 hm with h1 | h1
  · exact h h1
  · exact hx (List.mem_singleton.1 h1).symm
/-- .. of a number among numbers: a place, or -1. -/
def IdxP (l : List Int) (n : Int) (w : World) (e : Ending) (w' : World) : Prop := ∃ i : Int, e = .returned (.int .i64 i) ∧ (n ∈ l ∧ 0 ≤ i ∨ n ∉ l ∧ i = -1) ∧ w = w'
theorem indexI_any (v : Value) (l : List Int) (n : Int) (hv : Sl F w 1 encI v l) : Calls Tryz.prog 147 #[v, .int .i64 n] w (IdxP l n w) := by
  obtain ⟨a, c, rfl, h1, h2, h3, hc⟩ := hv
  unfold maxLen at h2
  go_enter Tryz.func147, Tryz.ntmps147
  go_wp2_with fail
  go_loopg [8] l.length (fun m i wr => ∃ k : Nat, k + m = l.length ∧ i = .int .i64 k ∧ Hid (n ∉ l.take k) ∧ w = wr)
  case atStart => exact ⟨0, by omega, rfl, Lib.hid (by simp), rfl⟩
  case round =>
    obtain ⟨k, hkm, rfl, HZ, rfl⟩ := hrel
    by_cases hlt : k < l.length
    · obtain ⟨b, off, rfl, hb, hF, hd⟩ := Sl.at hc (Mods.refl (fun _ => False) w) (fun _ _ f => f.elim) k hlt
      have c0 := hd 0 _ rfl
      simp only [Nat.add_zero, Nat.mul_one] at c0
      clear hd
      by_cases hn : l[k] = n
      · have hn1 : (n == l[k]) = true := by rw [hn]; simp
        have HN := Lib.hid hn
        clear hn
        go_wp2_with fail
        go_ret
        exact ⟨(k : Int), rfl, .inl ⟨by rw [← HN.out]; exact List.getElem_mem hlt, by omega⟩, rfl⟩
      · have hn1 : (n == l[k]) = false := beq_eq_false_iff_ne.2 (fun h => hn h.symm)
        have HN := Lib.hid hn
        clear hn
        go_wp2_with fail
        go_roundg (gk - 1)
        case measure => omega
        case rel => exact ⟨k + 1, by omega, by go_num, Lib.hid (mem_take_succ hlt HZ.out HN.out), rfl⟩
    · have hke : k = l.length := by omega
      go_wp2_with fail
      go_ret
      exact ⟨-1, rfl, .inr ⟨by have := HZ.out; rwa [hke, List.take_length] at this, rfl⟩, rfl⟩
theorem containsI_any (v : Value) (l : List Int) (n : Int) (hv : Sl F w 1 encI v l) : Calls Tryz.prog 144 #[v, .int .i64 n] w fun e w' => e = .returned (.bool (decide (n ∈ l))) ∧ w = w' := by
  have HV := Lib.hid hv
  clear hv
  go_enter Tryz.func144, Tryz.ntmps144
  go_wp2_with fail
  refine (indexI_any v l n HV.out).mono ?_
  rintro e w1 ⟨i, rfl, ⟨hm, hi⟩ | ⟨hm, rfl⟩, rfl⟩
  · have HM := Lib.hid hm
    clear hm
    go_wp2_with fail
    go_ret
    exact ⟨ret_bool (by rw [decide_eq_true HM.out]), rfl⟩
  · have HM := Lib.hid hm
    clear hm
    go_wp2_with fail
    go_ret
    exact ⟨ret_bool (by rw [decide_eq_false HM.out]), rfl⟩
end
end Go.Proofs.YtmgfneijcfjlfaaGreatDoor
namespace Go.Proofs.YtmgfneijcfjlfaaGreatDoor
open Go.RowKit
def leafB (n : NodeA) : Bool := n.entries.all rightE && (n.keys.isEmpty && n.kids.isEmpty) && risingS (n.entries.map (·.key))
def innerB (n : NodeA) : Bool := n.entries.isEmpty && decide (2 ≤ n.kids.length) && decide (n.kids.length = n.keys.length + 1) && decide (n.kids.length ≤ 256) && n.kids.all kidB && decide n.kids.Nodup && n.keys.all keyB && risingS n.keys
theorem right_leaf {n : NodeA} (h : n.leaf = true) : rightN n = (leafB n && decide (n.entries.length ≤ 65535)) := by
  unfold rightN leafB
  rw [if_pos h]
  simp only [Bool.and_assoc]
theorem right_inner {n : NodeA} (h : n.leaf = false) : rightN n = innerB n := by
  unfold rightN innerB
  rw [if_neg (by rw [h]; simp)]
theorem all_take {α : Type} {p : α → Bool} {l : List α} {k : Nat} (hk : k < l.length) (h : ∀ x ∈ l.take k, p x = true) (hp : p l[k] = true) : ∀ x ∈ l.take (k + 1), p x = true := by
  intro x hx
  rw [take_one l k l[k] (by simp [hk])] at hx
  rcases List.mem_append.1 hx with h1 | h1
  · exact h x h1
  · rw [List.mem_singleton.1 h1]; exact hp
theorem all_done {α : Type} {p : α → Bool} {l : List α} {k : Nat} (hk : k = l.length) (h : ∀ x ∈ l.take k, p x = true) : l.all p = true := by
  rw [hk, List.take_length] at h
  exact List.all_eq_true.2 h
theorem all_not {α : Type} {p : α → Bool} {l : List α} {k : Nat} (hk : k < l.length) (hp : p l[k] = false) : l.all p = false := by
  rw [← Bool.not_eq_true, List.all_eq_true]
  intro h
  have := h l[k] (List.getElem_mem hk)
  rw [hp] at this; cases this
theorem Sl.pre {α : Type} {F : Nat → Prop} {w : World} {sz : Nat} {enc : α → List Value} {a : Option Addr} {n cap : Nat} {l : List α} (h : Sl F w sz enc (.slice a n cap) l) (k : Nat) (hk : k ≤ l.length) : Sl F w sz enc (.slice a k cap) (l.take k) := by
  obtain ⟨a', cap', e, h1, h2, h3, h4⟩ := h
  injection e with e1 e2 e3
  subst e1 e3
  have hl : (l.take k).length = k := by simp; omega
  refine ⟨a, cap, by rw [hl], by omega, h2, by omega, ?_⟩
  rcases h4 with rfl | ⟨b, off, rfl, hb, hF, hc⟩
  · exact .inl (by simp)
  · exact .inr ⟨b, off, rfl, hb, hF, fun i x hi j u hu => hc i x (by
      rw [List.getElem?_take] at hi
      split at hi
      · exact hi
      · cases hi) j u hu⟩
section
variable {F : Nat → Prop} {ad : Nat → Addr} {w w' : World}
set_option maxRecDepth 100000 in
theorem nleaf_any (n : NodeA) (ve vk vi : Value) (hve : Sl F w 4 encE ve n.entries) (hvk : Sl F w 1 encS vk n.keys) (hvi : Sl F w 1 encI vi n.kids) :
    Calls Tryz.prog 135 #[.agg #[.bool n.leaf, ve, vk, vi]] w fun e w' => e = .returned (.bool (leafB n)) ∧ Ext w w' := by
  have HVE := Lib.hid hve
  obtain ⟨ae, ce, rfl, he1, he2, he3, hee⟩ := hve
  obtain ⟨ak, ck, rfl, hk1, hk2, hk3, hkk⟩ := hvk
  obtain ⟨ai, ci, rfl, hi1, hi2, hi3, hii⟩ := hvi
  unfold maxLen at he2 hk2 hi2
  clear hkk hii
  generalize hlf : n.leaf = lf
  clear hlf
  go_enter Tryz.func135, Tryz.ntmps135
  go_wp2_with fail
  go_loopg [8] n.entries.length (fun m i wr => ∃ k : Nat, k + m = n.entries.length ∧ i = .int .i64 k ∧ Hid (∀ x ∈ n.entries.take k, rightE x = true) ∧ Ext w wr ∧ wr.cell? ⟨w.heap.size, 1, none⟩ = some (.slice ae n.entries.length ce) ∧ wr.cell? ⟨w.heap.size, 2, none⟩ = some (.slice ak n.keys.length ck) ∧ wr.cell? ⟨w.heap.size, 3, none⟩ = some (.slice ai n.kids.length ci))
  case atStart => exact ⟨0, by omega, rfl, Lib.hid (by simp), (Mods.refl _ _).alloc _, by go_cell, by go_cell, by go_cell⟩
  case round =>
    obtain ⟨k, hkm, rfl, HZ, hm, b1, b2, b3⟩ := hrel
    by_cases hlt : k < n.entries.length
    · obtain ⟨b, off, rfl, hb, hF, hc⟩ := Sl.at hee hm (fun _ _ f => f.elim) k hlt
      have c0 := hc 0 _ rfl
      simp only [Nat.add_zero] at c0
      have c1 := hc 1 _ rfl
      have c2 := hc 2 _ rfl
      have c3 := hc 3 _ rfl
      have HM := Lib.hid hm
      have HEE := Lib.hid hee
      clear hc hee hm
      go_wp2_with fail
      refine (nentry_any n.entries[k] _).mono ?_
      rintro x w1 ⟨rfl, hm1⟩
      have hz1 := cellE hm1 (cell_alloc b1 _)
      have hz2 := cellE hm1 (cell_alloc b2 _)
      have hz3 := cellE hm1 (cell_alloc b3 _)
      have HM1 : Hid (Ext w w1) := Lib.hid ((HM.out.alloc _).trans hm1)
      clear hm1 c0 c1 c2 c3 b1 b2 b3
      cases ht : rightE n.entries[k]
      · have HT := Lib.hid ht
        clear ht
        go_wp2_with fail
        go_ret
        exact ⟨ret_bool (by unfold leafB; rw [all_not hlt HT.out]; rfl), HM1.out⟩
      · have HT := Lib.hid ht
        clear ht
        go_wp2_with fail
        go_roundg (gk - 1)
        case measure => omega
        case rel => exact ⟨k + 1, by omega, by go_num, Lib.hid (all_take hlt HZ.out HT.out), HM1.out, hz1, hz2, hz3⟩
    · have hke : k = n.entries.length := by omega
      have HA : Hid (n.entries.all rightE = true) := Lib.hid (all_done hke HZ.out)
      have HM := Lib.hid hm
      have HVE1 := Lib.hid (HVE.out.ext hm)
      clear HZ hke hee hm
      by_cases hz : n.keys.length = 0 ∧ n.kids.length = 0
      · have hd : ((n.keys.length : Int) + (n.kids.length : Int) == 0) = true := by rw [beq_iff_eq]; omega
        have HZ := Lib.hid hz
        clear hz
        go_wp2_with fail
        refine (risingE_any _ _ HVE1.out).mono ?_
        rintro x w1 ⟨rfl, hm1⟩
        have HM1 := Lib.hid (HM.out.trans hm1)
        clear hm1
        go_wp2_with fail
        go_ret
        exact ⟨ret_bool (by
          unfold leafB
          rw [HA.out, List.isEmpty_iff.2 (List.eq_nil_of_length_eq_zero HZ.out.1), List.isEmpty_iff.2 (List.eq_nil_of_length_eq_zero HZ.out.2)]; rfl), HM1.out⟩
      · have hd : ((n.keys.length : Int) + (n.kids.length : Int) == 0) = false := by rw [beq_eq_false_iff_ne]; omega
        have HZ := Lib.hid hz
        clear hz
        go_wp2_with fail
        go_ret
        exact ⟨ret_bool (by
          unfold leafB
          have : (n.keys.isEmpty && n.kids.isEmpty) = false := by
            rw [← Bool.not_eq_true, Bool.and_eq_true, List.isEmpty_iff, List.isEmpty_iff]
            rintro ⟨a, b⟩
            exact HZ.out ⟨by rw [a]; rfl, by rw [b]; rfl⟩
          rw [this]; simp), HM.out⟩
end
end Go.Proofs.YtmgfneijcfjlfaaGreatDoor
namespace Go.Proofs.YtmgfneijcfjlfaaGreatDoor
open Go.RowKit
def innerH (n : NodeA) : Bool := n.entries.isEmpty && decide (2 ≤ n.kids.length) && decide (n.kids.length = n.keys.length + 1) && decide (n.kids.length ≤ 256)
theorem innerB_eq (n : NodeA) : innerB n = (innerH n && (n.kids.all kidB && decide n.kids.Nodup) && n.keys.all keyB && risingS n.keys) := by
  unfold innerB innerH
  simp only [Bool.and_assoc]
theorem innerH_iff (n : NodeA) : innerH n = true ↔ n.entries.length = 0 ∧ 2 ≤ n.kids.length ∧ n.kids.length = n.keys.length + 1 ∧ n.kids.length ≤ 256 := by
  unfold innerH
  simp only [Bool.and_eq_true, decide_eq_true_eq, List.isEmpty_iff, List.length_eq_zero_iff, and_assoc]
theorem nodup_take {l : List Int} {k : Nat} (hk : k < l.length) (h : (l.take k).Nodup) (hn : l[k] ∉ l.take k) : (l.take (k + 1)).Nodup := by
  rw [take_one l k l[k] (by simp [hk])]
  rw [List.nodup_append]
  refine ⟨h, by simp, fun a ha b hb e => ?_⟩
  rw [List.mem_singleton.1 hb] at e
  rw [e] at ha
  exact hn ha
theorem nodup_not {l : List Int} {k : Nat} (hk : k < l.length) (hn : l[k] ∈ l.take k) : ¬ l.Nodup := by
  intro h
  obtain ⟨i, hi, e⟩ := List.getElem_of_mem hn
  rw [List.getElem_take] at e
  have hik : i < k := by simp at hi; omega
  exact List.pairwise_iff_getElem.1 h i k (by omega) hk hik e
section
variable {F : Nat → Prop} {ad : Nat → Addr} {w w' : World}
set_option maxRecDepth 100000 in
theorem ninner_any (n : NodeA) (ve vk vi : Value) (hve : Sl F w 4 encE ve n.entries) (hvk : Sl F w 1 encS vk n.keys) (hvi : Sl F w 1 encI vi n.kids) :
    Calls Tryz.prog 136 #[.agg #[.bool n.leaf, ve, vk, vi]] w fun e w' => e = .returned (.bool (innerB n)) ∧ Ext w w' := by
  have HVI := Lib.hid hvi
  have HVK := Lib.hid hvk
  obtain ⟨ae, ce, rfl, he1, he2, he3, hee⟩ := hve
  obtain ⟨ak, ck, rfl, hk1, hk2, hk3, hkk⟩ := hvk
  obtain ⟨ai, ci, rfl, hi1, hi2, hi3, hii⟩ := hvi
  unfold maxLen at he2 hk2 hi2
  clear hee
  generalize hlf : n.leaf = lf
  clear hlf
  cases hh : innerH n with
  | false =>
    have HR : Hid (innerB n = false) := Lib.hid (by rw [innerB_eq, hh]; rfl)
    have hn : ¬ (n.entries.length = 0 ∧ 2 ≤ n.kids.length ∧ n.kids.length = n.keys.length + 1 ∧ n.kids.length ≤ 256) := fun h => by rw [(innerH_iff n).2 h] at hh; cases hh
    clear hh hkk hii HVI HVK
    generalize n.entries.length = N1 at *
    generalize n.kids.length = N2 at *
    generalize n.keys.length = N3 at *
    by_cases h1 : (0 : Int) < (N1 : Int)
    · clear hn
      go_enter Tryz.func136, Tryz.ntmps136
      go_wp2_with fail
      go_ret
      exact ⟨ret_bool HR.out.symm, (Mods.refl _ w).alloc _⟩
    · by_cases h2 : (N2 : Int) < 2
      · clear hn
        go_enter Tryz.func136, Tryz.ntmps136
        go_wp2_with fail
        go_ret
        exact ⟨ret_bool HR.out.symm, (Mods.refl _ w).alloc _⟩
      · by_cases h3 : N2 = N3 + 1
        · subst h3
          have h4 : (256 : Int) < (N3 : Int) + 1 := by omega
          clear hn
          go_enter Tryz.func136, Tryz.ntmps136
          go_wp2_with fail
          go_ret
          exact ⟨ret_bool HR.out.symm, (Mods.refl _ w).alloc _⟩
        · have h5 : ((N2 : Int) != (N3 : Int) + 1) = true := by rw [bne_iff_ne]; omega
          clear hn h3
          go_enter Tryz.func136, Tryz.ntmps136
          go_wp2_with fail
          go_ret
          exact ⟨ret_bool HR.out.symm, (Mods.refl _ w).alloc _⟩
  | true =>
    have HR : Hid (innerB n = ((n.kids.all kidB && decide n.kids.Nodup) && n.keys.all keyB && risingS n.keys)) := Lib.hid (by rw [innerB_eq, hh, Bool.true_and])
    obtain ⟨g1, g2, g3, g4⟩ := (innerH_iff n).1 hh
    rw [g3] at hi1 hi3 g2 g4
    rw [g1, g3]
    have HG3 := Lib.hid g3
    have h2 : ¬ (n.keys.length : Int) + 1 < 2 := by omega
    have h4 : ¬ (256 : Int) < (n.keys.length : Int) + 1 := by omega
    clear hh g1 g3
    go_enter Tryz.func136, Tryz.ntmps136
    go_wp2_with fail
    go_loopg [36] (n.keys.length + 1) (fun m i wr => ∃ k : Nat, k + m = n.keys.length + 1 ∧ i = .int .i64 k ∧ Hid ((∀ x ∈ n.kids.take k, kidB x = true) ∧ (n.kids.take k).Nodup) ∧ Ext w wr ∧ wr.cell? ⟨w.heap.size, 2, none⟩ = some (.slice ak n.keys.length ck) ∧ wr.cell? ⟨w.heap.size, 3, none⟩ = some (.slice ai (n.keys.length + 1) ci))
    case atStart => exact ⟨0, by omega, rfl, Lib.hid ⟨by simp, by simp⟩, (Mods.refl _ _).alloc _, by go_cell, by go_cell⟩
    case round =>
      obtain ⟨k, hkm, rfl, HZ, hm, b2, b3⟩ := hrel
      by_cases hlt1 : k < n.keys.length + 1
      · have hlt : k < n.kids.length := by rw [HG3.out]; exact hlt1
        obtain ⟨b, off, rfl, hb, hF, hc⟩ := Sl.at hii hm (fun _ _ f => f.elim) k hlt
        have c0 := hc 0 _ rfl
        simp only [Nat.add_zero, Nat.mul_one] at c0
        have HM := Lib.hid hm
        have HII := Lib.hid hii
        have HKK := Lib.hid hkk
        have HP := Lib.hid ((HVI.out.ext hm).pre k (by rw [HG3.out]; omega))
        have HLT := Lib.hid hlt
        generalize hkx : n.kids[k] = kx at c0
        have HKX := Lib.hid hkx
        clear hkx
        clear hc hlt hii hm hkk
        go_wp2_with fail
        refine (nkid_any kx _).mono ?_
        rintro x w1 ⟨rfl, rfl⟩
        cases ht : kidB kx
        · have HT := Lib.hid ht
          clear ht
          go_wp2_with fail
          go_ret
          exact ⟨ret_bool (by rw [HR.out, all_not HLT.out ((congrArg kidB HKX.out).trans HT.out)]; rfl), HM.out⟩
        · have HT := Lib.hid ht
          clear ht
          go_wp2_with fail
          refine (containsI_any _ _ kx HP.out).mono ?_
          rintro x w1 ⟨rfl, rfl⟩
          by_cases hc : kx ∈ n.kids.take k
          · have HC := Lib.hid hc
            rw [decide_eq_true hc]
            clear hc
            go_wp2_with fail
            go_ret
            exact ⟨ret_bool (by rw [HR.out, decide_eq_false (nodup_not HLT.out (HKX.out ▸ HC.out))]; simp), HM.out⟩
          · have HC := Lib.hid hc
            rw [decide_eq_false hc]
            clear hc
            go_wp2_with fail
            go_roundg (gk - 1)
            case measure => omega
            case rel => exact ⟨k + 1, by omega, by go_num, Lib.hid ⟨all_take HLT.out HZ.out.1 ((congrArg kidB HKX.out).trans HT.out), nodup_take HLT.out HZ.out.2 (HKX.out ▸ HC.out)⟩, HM.out, b2, b3⟩
      · have hke : k = n.kids.length := by rw [HG3.out]; omega
        have HA : Hid ((n.kids.all kidB && decide n.kids.Nodup) = true) := Lib.hid (by
          rw [all_done hke HZ.out.1]
          have := HZ.out.2
          rw [hke, List.take_length] at this
          rw [decide_eq_true this]; rfl)
        have HM := Lib.hid hm
        clear hii HZ hke hm hkm
        go_wp2_with fail
        have hm := HM.out
        clear HM
        obtain ⟨wo, rfl⟩ : ∃ wo : World, wo = wr := ⟨_, rfl⟩
        go_loopg [56] n.keys.length (fun m i wr => ∃ k : Nat, k + m = n.keys.length ∧ i = .int .i64 k ∧ Hid (∀ x ∈ n.keys.take k, keyB x = true) ∧ Ext w wr ∧ wr.cell? ⟨w.heap.size, 2, none⟩ = some (.slice ak n.keys.length ck))
        case atStart => exact ⟨0, by omega, rfl, Lib.hid (by simp), hm, b2⟩
        case round =>
          obtain ⟨k, hkm, rfl, HZ, hm, b2⟩ := hrel
          by_cases hlt : k < n.keys.length
          · obtain ⟨b, off, rfl, hb, hF, hc⟩ := Sl.at hkk hm (fun _ _ f => f.elim) k hlt
            have c0 := hc 0 _ rfl
            simp only [Nat.add_zero, Nat.mul_one] at c0
            have HM := Lib.hid hm
            have HKK := Lib.hid hkk
            clear hc hkk hm
            go_wp2_with fail
            refine (key_any n.keys[k] _).mono ?_
            rintro x w1 ⟨rfl, rfl⟩
            cases ht : keyB n.keys[k]
            · have HT := Lib.hid ht
              clear ht
              go_wp2_with fail
              go_ret
              exact ⟨ret_bool (by rw [HR.out, all_not hlt HT.out]; simp), HM.out⟩
            · have HT := Lib.hid ht
              clear ht
              go_wp2_with fail
              go_roundg (gk - 1)
              case measure => omega
              case rel => exact ⟨k + 1, by omega, by go_num, Lib.hid (all_take hlt HZ.out HT.out), HM.out, b2⟩
          · have hke : k = n.keys.length := by omega
            have HB : Hid (n.keys.all keyB = true) := Lib.hid (all_done hke HZ.out)
            have HM := Lib.hid hm
            have HVK1 := Lib.hid (HVK.out.ext hm)
            clear HZ hke hm hkk
            go_wp2_with fail
            refine (risingS_any _ _ HVK1.out).mono ?_
            rintro x w1 ⟨rfl, hm1⟩
            have HM1 := Lib.hid (HM.out.trans hm1)
            clear hm1
            go_wp2_with fail
            go_ret
            exact ⟨ret_bool (by rw [HR.out, HA.out, HB.out]; rfl), HM1.out⟩
end
end Go.Proofs.YtmgfneijcfjlfaaGreatDoor
namespace Go.Proofs.YtmgfneijcfjlfaaGreatDoor
open Go.RowKit
def nodeCk (n : NodeA) : Option Err := if rightN n = true then none else some ([-1], 1)
section
variable {F : Nat → Prop} {ad : Nat → Addr} {w w' : World}
set_option maxRecDepth 100000 in
theorem nodeCheck_any (hL : Env F ad w) (n : NodeA) (ve vk vi : Value) (hve : Sl F w 4 encE ve n.entries) (hvk : Sl F w 1 encS vk n.keys) (hvi : Sl F w 1 encI vi n.kids) :
    Calls Tryz.prog 127 #[.agg #[.bool n.leaf, ve, vk, vi]] w fun e w' => ∃ ev, e = .returned ev ∧ ErrR F ad w' ev (nodeCk n) ∧ Ext w w' := by
  have m0 : Ext w (w.alloc (.cells #[.bool n.leaf, ve, vk, vi] 57)) := (Mods.refl _ w).alloc _
  have HB0 := Lib.hid (Blk.new w #[.bool n.leaf, ve, vk, vi] 57)
  have HVE := Lib.hid (hve.ext m0)
  have HVK := Lib.hid (hvk.ext m0)
  have HVI := Lib.hid (hvi.ext m0)
  have HL := Lib.hid (hL.mods m0.ext)
  have HM0 := Lib.hid m0
  have HN1 : Hid (∀ w1, Ext w w1 → Env F ad w1) := Lib.hid (fun w1 h => hL.mods h.ext)
  obtain ⟨ae, ce, rfl, he1, he2, he3, _⟩ := hve
  clear hvk hvi hL m0
  unfold maxLen at he2
  cases hlf : n.leaf
  · have HR : Hid (nodeCk n = if innerB n = true then none else some ([-1], 1)) := Lib.hid (by unfold nodeCk; rw [right_inner hlf])
    rw [hlf] at HB0 HVE HVK HVI HM0 HL
    have HCI := Lib.hid (ninner_any n _ _ _ HVE.out HVK.out HVI.out)
    rw [hlf] at HCI
    clear hlf
    go_enter Tryz.func127, Tryz.ntmps127
    go_wp2_with fail
    refine (HCI.out).mono ?_
    rintro e w1 ⟨rfl, hm1⟩
    have hB1 := HB0.out.ext hm1
    have b0 := hB1.cell (o := 0) (v := .bool false) rfl
    have b1 := hB1.cell (o := 1) (v := .slice ae n.entries.length ce) rfl
    have HM1 := Lib.hid (HM0.out.trans hm1)
    have hL1 := HN1.out _ HM1.out
    have g1 := hL1.c1
    have HL1 := Lib.hid hL1
    clear hm1 hB1 hL1
    cases hin : innerB n
    · rw [hin, if_neg (by simp)] at HR
      go_wp2_with fail
      refine (new_any HL1.out _ _ [] 1 (.sent 1 (by decide) (by decide))).mono ?_
      rintro e w2 ⟨f, rfl, hE, hm2⟩
      have HE := Lib.hid hE
      have HM2 := Lib.hid (HM1.out.trans hm2)
      clear hE hm2
      go_wp2_with fail
      go_ret
      exact ⟨_, rfl, by rw [HR.out]; exact ⟨f, rfl, HE.out⟩, HM2.out⟩
    · rw [hin, if_pos rfl] at HR
      have hz : n.entries.length = 0 := by
        rw [innerB_eq] at hin
        simp only [Bool.and_eq_true] at hin
        exact ((innerH_iff n).1 hin.1.1.1).1
      rw [hz] at b1
      clear hin hz
      go_wp2_with fail
      go_ret
      exact ⟨_, rfl, by rw [HR.out]; rfl, HM1.out⟩
  · have HR : Hid (nodeCk n = if (leafB n && decide (n.entries.length ≤ 65535)) = true then none else some ([-1], 1)) := Lib.hid (by unfold nodeCk; rw [right_leaf hlf])
    rw [hlf] at HB0 HVE HVK HVI HM0 HL
    have HCI := Lib.hid (nleaf_any n _ _ _ HVE.out HVK.out HVI.out)
    rw [hlf] at HCI
    clear hlf
    go_enter Tryz.func127, Tryz.ntmps127
    go_wp2_with fail
    refine (HCI.out).mono ?_
    rintro e w1 ⟨rfl, hm1⟩
    have hB1 := HB0.out.ext hm1
    have b0 := hB1.cell (o := 0) (v := .bool true) rfl
    have b1 := hB1.cell (o := 1) (v := .slice ae n.entries.length ce) rfl
    have HM1 := Lib.hid (HM0.out.trans hm1)
    have hL1 := HN1.out _ HM1.out
    have g1 := hL1.c1
    have HL1 := Lib.hid hL1
    clear hm1 hB1 hL1
    cases hin : leafB n
    · rw [hin, Bool.false_and, if_neg (by simp)] at HR
      clear hin
      go_wp2_with fail
      refine (new_any HL1.out _ _ [] 1 (.sent 1 (by decide) (by decide))).mono ?_
      rintro e w2 ⟨f, rfl, hE, hm2⟩
      have HE := Lib.hid hE
      have HM2 := Lib.hid (HM1.out.trans hm2)
      clear hE hm2
      go_wp2_with fail
      go_ret
      exact ⟨_, rfl, by rw [HR.out]; exact ⟨f, rfl, HE.out⟩, HM2.out⟩
    · rw [hin, Bool.true_and] at HR
      clear hin
      by_cases hl : (65535 : Int) < (n.entries.length : Int)
      · rw [decide_eq_false (by omega), if_neg (by simp)] at HR
        go_wp2_with fail
        refine (new_any HL1.out _ _ [] 1 (.sent 1 (by decide) (by decide))).mono ?_
        rintro e w2 ⟨f, rfl, hE, hm2⟩
        have HE := Lib.hid hE
        have HM2 := Lib.hid (HM1.out.trans hm2)
        clear hE hm2
        go_wp2_with fail
        go_ret
        exact ⟨_, rfl, by rw [HR.out]; exact ⟨f, rfl, HE.out⟩, HM2.out⟩
      · rw [decide_eq_true (by omega), if_pos rfl] at HR
        go_wp2_with fail
        go_ret
        exact ⟨_, rfl, by rw [HR.out]; rfl, HM1.out⟩
end
end Go.Proofs.YtmgfneijcfjlfaaGreatDoor
namespace Go.Proofs.YtmgfneijcfjlfaaGreatDoor
open Go.RowKit
attribute [local go_sem ↓] Go.wp_at_zero Go.wp_at_succ
theorem flat_take_len {α : Type} (f : α → List UInt8) (l : List α) (k : Nat) : ((l.take k).flatMap f).length ≤ (l.flatMap f).length := by
  have h : l.flatMap f = (l.take k).flatMap f ++ (l.drop k).flatMap f := by rw [← List.flatMap_append, List.take_append_drop]
  rw [h, List.length_append]; omega
def leafPre (n : NodeA) (k : Nat) : List UInt8 := leB 2 n.entries.length ++ (n.entries.take k).flatMap bytesE
def innerPre (n : NodeA) (k : Nat) : List UInt8 := leB 2 n.kids.length ++ (leB 4 (n.kids.headD 0).toNat ++ ((n.keys.zip n.kids.tail).take k).flatMap bytesK)
theorem leafPre_zero (n : NodeA) : leafPre n 0 = leB 2 n.entries.length := by simp [leafPre]
theorem leafPre_step (n : NodeA) {k : Nat} {e : EntryA} (h : n.entries[k]? = some e) : leafPre n (k + 1) = leafPre n k ++ bytesE e := by
  unfold leafPre
  rw [take_one _ _ _ h, List.flatMap_append, ← List.append_assoc]
  simp
theorem leafPre_all {n : NodeA} (hl : n.leaf = true) {k : Nat} (hk : k = n.entries.length) : leafPre n k = bytesN n := by
  unfold leafPre bytesN
  rw [hk, List.take_length, if_pos hl]
theorem leafPre_len {n : NodeA} (hl : n.leaf = true) (k : Nat) : (leafPre n k).length ≤ (bytesN n).length := by
  unfold bytesN leafPre
  rw [if_pos hl]
  have := flat_take_len bytesE n.entries k
  simp only [List.length_append]
  omega
theorem innerPre_zero (n : NodeA) : innerPre n 0 = leB 2 n.kids.length ++ leB 4 (n.kids.headD 0).toNat := by simp [innerPre]
theorem innerPre_step (n : NodeA) {k : Nat} {s : ByteArray} {c : Int} (h : n.keys[k]? = some s) (h2 : n.kids[k + 1]? = some c) : innerPre n (k + 1) = innerPre n k ++ bytesK (s, c) := by
  have hz : (n.keys.zip n.kids.tail)[k]? = some (s, c) := by
    rw [List.getElem?_zip_eq_some]
    exact ⟨h, by rw [List.getElem?_tail]; exact h2⟩
  unfold innerPre
  rw [take_one _ _ _ hz, List.flatMap_append]
  simp only [List.append_assoc, List.flatMap_cons, List.flatMap_nil, List.append_nil]
theorem innerPre_all {n : NodeA} (hl : n.leaf = false) (_hk2 : n.kids.length = n.keys.length + 1) {k : Nat} (hk : k = n.keys.length) : innerPre n k = bytesN n := by
  unfold innerPre bytesN
  rw [List.take_of_length_le (by simp; omega), if_neg (by rw [hl]; simp)]
theorem innerPre_len {n : NodeA} (hl : n.leaf = false) (k : Nat) : (innerPre n k).length ≤ (bytesN n).length := by
  unfold bytesN innerPre
  rw [if_neg (by rw [hl]; simp)]
  have := flat_take_len bytesK (n.keys.zip n.kids.tail) k
  simp only [List.length_append]
  omega
/-- node.Put's answer. -/
def NodePut (F : Nat → Prop) (ad : Nat → Addr) (w : World) (n : NodeA) (e : Ending) (w' : World) : Prop :=
  Ext w w' ∧ ((rightN n = true ∧ ∃ a c, e = .returned (.tuple #[.slice a (bytesN n).length c, .nilIface]) ∧ Own (fun _ => False) w' w.heap.size 5 1 encB (.slice a (bytesN n).length c) (bytesN n)) ∨
    (rightN n = false ∧ ∃ f, e = .returned (.tuple #[.slice none 0 0, faultV f]) ∧ ErrC F ad w' (faultV f) [-1, -1] 1))
theorem NodePut.form {F : Nat → Prop} {ad : Nat → Addr} {w w' : World} {n : NodeA} {e : Ending} (h : NodePut F ad w n e w') : ∃ v ev, e = .returned (.tuple #[v, ev]) := by
  obtain ⟨_, ⟨_, a, c, rfl, _⟩ | ⟨_, f, rfl, _⟩⟩ := h
  · exact ⟨_, _, rfl⟩
  · exact ⟨_, _, rfl⟩
theorem right_entry {n : NodeA} (hl : n.leaf = true) (hr : rightN n = true) {k : Nat} {e : EntryA} (h : n.entries[k]? = some e) : rightE e = true := by
  rw [right_leaf hl] at hr
  unfold leafB at hr
  simp only [Bool.and_eq_true, List.all_eq_true] at hr
  exact hr.1.1.1 e (List.mem_of_getElem? h)
theorem right_len {n : NodeA} (hl : n.leaf = true) (hr : rightN n = true) : n.entries.length ≤ 65535 := by
  rw [right_leaf hl] at hr
  simp only [Bool.and_eq_true, decide_eq_true_eq] at hr
  exact hr.2
theorem right_keys {n : NodeA} (hl : n.leaf = false) (hr : rightN n = true) {k : Nat} {s : ByteArray} (h : n.keys[k]? = some s) : s.size < 256 := by
  rw [right_inner hl, innerB_eq] at hr
  simp only [Bool.and_eq_true, List.all_eq_true] at hr
  have := (keyB_iff s).1 (hr.1.2 s (List.mem_of_getElem? h))
  omega
theorem right_256 {n : NodeA} (hl : n.leaf = false) (hr : rightN n = true) : 2 ≤ n.kids.length ∧ n.kids.length ≤ 256 ∧ n.kids.length = n.keys.length + 1 := by
  rw [right_inner hl, innerB_eq] at hr
  simp only [Bool.and_eq_true] at hr
  have := (innerH_iff n).1 hr.1.1.1
  omega
theorem right_kid {n : NodeA} (hl : n.leaf = false) (hr : rightN n = true) {k : Nat} {c : Int} (h : n.kids[k]? = some c) : 2 ≤ c ∧ c < 256 := by
  rw [right_inner hl, innerB_eq] at hr
  simp only [Bool.and_eq_true, List.all_eq_true] at hr
  simpa [kidB] using hr.1.1.2.1 c (List.mem_of_getElem? h)
section
variable {F : Nat → Prop} {ad : Nat → Addr} {w w' : World}
theorem WrR.new (w : World) (base : Nat) (h : base ≤ w.heap.size) : WrR base (w.alloc (.cells #[.slice none 0 0, .nilIface] 240)) w.heap.size [] :=
  ⟨⟨none, 0, Blk.new w _ _, Own.nil _ _ _ _ _ _⟩, h⟩
end
end Go.Proofs.YtmgfneijcfjlfaaGreatDoor
namespace Go.Proofs.YtmgfneijcfjlfaaGreatDoor
open Go.RowKit
attribute [local go_sem ↓] Go.wp_at_zero Go.wp_at_succ
/-- a world in which a writer's bytes have grown. -/
structure PutAt (ad : Nat → Addr) (F : Nat → Prop) (w w1 : World) (ve vk vi : Value) (lf : Bool) (B : Nat) (l : List UInt8) : Prop where
  ext : Ext w w1
  wr : WrR (w.heap.size + 1) w1 B l
  env0 : Env F ad w
  box : Blk w1 w.heap.size #[.bool lf, ve, vk, vi] 57
section
variable {F : Nat → Prop} {ad : Nat → Addr} {w w1 w2 w' : World} {n : NodeA} {ve vk vi : Value} {lf : Bool} {B : Nat} {l l' : List UInt8}
theorem PutAt.step (h : PutAt ad F w w1 ve vk vi lf B l) (m : Mods (fun k => w.heap.size + 1 ≤ k) w1 w2) (g : WrR (w.heap.size + 1) w2 B l') : PutAt ad F w w2 ve vk vi lf B l' :=
  ⟨Mods.past h.ext (m.mono (fun k (hk : w.heap.size + 1 ≤ k) => by omega)), g, h.env0, h.box.mods m (by omega)⟩
theorem PutAt.alloc (h : PutAt ad F w w1 ve vk vi lf B l) (o : Obj) : PutAt ad F w (w1.alloc o) ve vk vi lf B l :=
  h.step ((Mods.refl _ w1).alloc o) (by
    obtain ⟨a, c, h1, h2⟩ := h.wr.box
    exact ⟨⟨a, c, h1.alloc o, h2.ext ((Mods.refl _ w1).alloc o)⟩, h.wr.ge⟩)
theorem PutAt.env (h : PutAt ad F w w1 ve vk vi lf B l) : Env F ad w1 := h.env0.mods h.ext.ext
theorem PutAt.lt (h : PutAt ad F w w1 ve vk vi lf B l) : ∀ k, F k → k < w.heap.size + 1 := fun k hk => by have := h.env0.lt k hk; omega
theorem PutAt.num (h : PutAt ad F w w1 ve vk vi lf B l) (m W : Nat) (hW : W = 1 ∨ W = 2 ∨ W = 4) (hm : m < 256 ^ W) (hlen : l.length ≤ 100000) :
    Calls Tryz.prog 128 #[.pointer (some ⟨B, 0, none⟩), .int .i64 (m : Int), .int .i64 (W : Int)] w1 fun e w' => e = .returned (.tuple #[]) ∧ PutAt ad F w w' ve vk vi lf B (l ++ leB W m) ∧ Mods (fun k => w.heap.size + 1 ≤ k) w1 w' ∧ WFr B w1 w' :=
  (wnum_any h.env h.lt h.wr m W hW hm hlen).mono fun _ _ ⟨h1, h2, h3, h4⟩ => ⟨h1, h.step h3 h2, h3, h4⟩
theorem PutAt.text (h : PutAt ad F w w1 ve vk vi lf B l) (s : ByteArray) (hs : s.size < 256) (hlen : l.length ≤ 100000) :
    Calls Tryz.prog 129 #[.pointer (some ⟨B, 0, none⟩), .string s] w1 fun e w' => e = .returned (.tuple #[]) ∧ PutAt ad F w w' ve vk vi lf B (l ++ bytesT s) ∧ Mods (fun k => w.heap.size + 1 ≤ k) w1 w' ∧ WFr B w1 w' :=
  (wtext_any h.env h.lt h.wr s hs hlen).mono fun _ _ ⟨h1, h2, h3, h4⟩ => ⟨h1, h.step h3 h2, h3, h4⟩
theorem cellM {G : Nat → Prop} {w w' : World} (m : Mods G w w') {b o : Nat} {v : Value} (h : w.cell? ⟨b, o, none⟩ = some v) (hb : ¬ G b) : w'.cell? ⟨b, o, none⟩ = some v := (m.cell (cell_lt h) hb).trans h
theorem headD_at (l : List Int) (h : 0 < l.length) : l.headD 0 = l[0] := by
  cases l with
  | nil => simp at h
  | cons a r => rfl
set_option maxRecDepth 100000 in
theorem nodePut_any (hL : Env F ad w) (n : NodeA) (ve vk vi : Value) (hve : Sl F w 4 encE ve n.entries) (hvk : Sl F w 1 encS vk n.keys) (hvi : Sl F w 1 encI vi n.kids) (hlen : rightN n = true → (bytesN n).length ≤ 100000) :
    Calls Tryz.prog 110 #[.agg #[.bool n.leaf, ve, vk, vi]] w (NodePut F ad w n) := by
  have m0 : Ext w (w.alloc (.cells #[.bool n.leaf, ve, vk, vi] 57)) := (Mods.refl _ w).alloc _
  have HB0 := Lib.hid (Blk.new w #[.bool n.leaf, ve, vk, vi] 57)
  have HVE := Lib.hid hve
  have HVK := Lib.hid hvk
  have HVI := Lib.hid hvi
  have HL := Lib.hid hL
  have HCK := Lib.hid (nodeCheck_any (hL.mods m0.ext) n ve vk vi (hve.ext m0) (hvk.ext m0) (hvi.ext m0))
  have HM0 := Lib.hid m0
  have HLEN := Lib.hid hlen
  obtain ⟨ae, ce, rfl, he1, he2, he3, hee⟩ := hve
  obtain ⟨ak, ck, rfl, hk1, hk2, hk3, hkk⟩ := hvk
  obtain ⟨ai, ci, rfl, hi1, hi2, hi3, hii⟩ := hvi
  have HEE := Lib.hid hee
  have HKK := Lib.hid hkk
  have HII := Lib.hid hii
  clear hL m0 hlen hee hkk hii
  unfold maxLen at he2 hk2 hi2
  generalize hlf : n.leaf = lf
  rw [hlf] at HB0 HCK HM0
  have HLF := Lib.hid hlf
  clear hlf
  go_enter Tryz.func110, Tryz.ntmps110
  go_wp2_with fail
  refine (HCK.out).mono ?_
  rintro e w1 ⟨ev, rfl, hE, hm1⟩
  have HB1 := Lib.hid (HB0.out.ext hm1)
  have HM1 := Lib.hid (HM0.out.trans hm1)
  have HL1 := Lib.hid (HL.out.mods HM1.out.ext)
  clear hm1
  cases hr : rightN n with
  | false =>
    have HR := Lib.hid hr
    unfold nodeCk at hE
    rw [hr, if_neg (by simp)] at hE
    obtain ⟨f, rfl, hE⟩ := hE
    have HE := Lib.hid hE
    clear hE hr
    go_wp2_with fail
    refine (wrap_any HL1.out _ _ _ _ HE.out).mono ?_
    rintro e w2 ⟨f2, rfl, hE2, hm2⟩
    have HE2 := Lib.hid hE2
    have HM2 := Lib.hid (HM1.out.trans hm2)
    clear hE2 hm2
    go_wp2_with fail
    go_ret2
    exact ⟨HM2.out, .inr ⟨HR.out, f2, rfl, HE2.out⟩⟩
  | true =>
    have HR := Lib.hid hr
    unfold nodeCk at hE
    rw [hr, if_pos rfl] at hE
    cases hE
    clear hr
    have hz1 := HM1.out.size
    have hzb := HB1.out.lt
    have HP : Hid (PutAt ad F w (w1.alloc (.cells #[.slice none 0 0, .nilIface] 240)) (.slice ae n.entries.length ce) (.slice ak n.keys.length ck) (.slice ai n.kids.length ci) lf w1.heap.size []) := Lib.hid
      ⟨HM1.out.alloc _, WrR.new w1 _ (by omega), HL.out, HB1.out.alloc _⟩
    have p0 := HP.out.box.cell (o := 0) (v := .bool lf) rfl
    cases lf
    · obtain ⟨g1, g2, g3⟩ := right_256 HLF.out HR.out
      have p3 := HP.out.box.cell (o := 3) (v := .slice ai n.kids.length ci) rfl
      have HSM : Hid ((bytesN n).length ≤ 100000) := Lib.hid (HLEN.out HR.out)
      have HG3 := Lib.hid g3
      obtain ⟨b0, off0, rfl, hb0, hF0, hc0⟩ := Sl.at HII.out HP.out.ext (fun _ _ f => f.elim) 0 (by omega)
      have hk0 := right_kid HLF.out HR.out (List.getElem?_eq_getElem (show 0 < n.kids.length by omega))
      obtain ⟨z, hz⟩ : ∃ z : Nat, n.kids[0] = (z : Int) := ⟨n.kids[0].toNat, by omega⟩
      have HZ : Hid (z < 256 ^ 4 ∧ (n.kids.headD 0).toNat = z) := Lib.hid ⟨by omega, by
        have := headD_at n.kids (show 0 < n.kids.length by omega)
        rw [this, hz]; rfl⟩
      have i0 : (0 : Int) < (n.kids.length : Int) := by omega
      have HZ0 := Lib.hid hz
      clear hc0 hk0 hz g3
      go_wp2_with fail
      refine (HP.out.num n.kids.length 2 (.inr (.inl rfl)) (by have := HG3.out; omega) (by simp)).mono ?_
      rintro e w2 ⟨rfl, hP2, _, _⟩
      have p3 := hP2.box.cell (o := 3) (v := .slice (some ⟨b0, off0, none⟩) n.kids.length ci) rfl
      obtain ⟨b0', off0', hbb, _, _, hc0⟩ := Sl.at HII.out hP2.ext (fun _ _ f => f.elim) 0 (by have := HG3.out; omega)
      injection hbb with hbb
      injection hbb with hb1 hb2
      subst hb1 hb2
      have d0 : w2.cell? ⟨b0, off0, none⟩ = some (.int .i64 (z : Int)) := by
        have := hc0 0 _ rfl
        rw [HZ0.out] at this
        simpa using this
      have HP2 := Lib.hid hP2
      clear hP2 hc0 HP
      go_wp2_with fail
      refine (HP2.out.num z 4 (.inr (.inr rfl)) HZ.out.1 (by simp [leB_length])).mono ?_
      rintro e w3 ⟨rfl, hP3, _, _⟩
      have p2 := hP3.box.cell (o := 2) (v := .slice ak n.keys.length ck) rfl
      rw [List.nil_append, ← HZ.out.2, ← innerPre_zero n] at hP3
      have HP3 := Lib.hid hP3
      have hz2 := hP3.ext.size
      clear hP3 HP2 d0
      go_wp2_with fail
      go_loopg [70] n.keys.length (fun m i wr => ∃ k : Nat, k + m = n.keys.length ∧ i = .int .i64 k ∧ Hid (PutAt ad F w wr (.slice ae n.entries.length ce) (.slice ak n.keys.length ck) (.slice (some ⟨b0, off0, none⟩) n.kids.length ci) false w1.heap.size (innerPre n k)))
      case atStart => exact ⟨0, by omega, rfl, HP3⟩
      case round =>
        obtain ⟨k, hkm, rfl, HPk⟩ := hrel
        by_cases hlt : k < n.keys.length
        · obtain ⟨b, off, rfl, hb, hF, hc⟩ := Sl.at HKK.out HPk.out.ext (fun _ _ f => f.elim) k hlt
          have hlk : k + 1 < n.kids.length := by rw [HG3.out]; omega
          have hen : n.keys[k]? = some n.keys[k] := List.getElem?_eq_getElem hlt
          have hkd : n.kids[k + 1]? = some n.kids[k + 1] := List.getElem?_eq_getElem hlk
          have hpre := innerPre_step n hen hkd
          have hks := right_keys HLF.out HR.out hen
          have hkr := right_kid HLF.out HR.out hkd
          have hpl : (innerPre n (k + 1)).length ≤ 100000 := Nat.le_trans (innerPre_len HLF.out (k + 1)) HSM.out
          rw [hpre, List.length_append] at hpl
          have c0 := hc 0 _ rfl
          simp only [Nat.add_zero, Nat.mul_one] at c0
          obtain ⟨y, hy⟩ : ∃ y : Nat, n.kids[k + 1] = (y : Int) := ⟨n.kids[k + 1].toNat, by omega⟩
          have HY : Hid (n.kids[k + 1]? = some (y : Int) ∧ y < 256 ^ 4) := Lib.hid ⟨by rw [hkd, hy], by omega⟩
          have HBY : Hid (bytesK (n.keys[k], n.kids[k + 1]) = bytesT n.keys[k] ++ leB 4 y) := Lib.hid (by unfold bytesK; simp only [hy, Int.toNat_natCast])
          have HPL : Hid ((innerPre n k).length + (bytesT n.keys[k] ++ leB 4 y).length ≤ 100000) := Lib.hid (by rw [← HBY.out]; exact hpl)
          have HPRE := Lib.hid hpre
          have HLK := Lib.hid hlk
          have i1 : (k : Int) + 1 < (n.kids.length : Int) := by omega
          clear hc hen hkd hpre hpl hkr hy
          go_wp2_with fail
          refine (HPk.out.text n.keys[k] hks (by have := HPL.out; omega)).mono ?_
          rintro e w4 ⟨rfl, hP4, _, _⟩
          have p3 := hP4.box.cell (o := 3) (v := .slice (some ⟨b0, off0, none⟩) n.kids.length ci) rfl
          obtain ⟨b0', off0', hbb, _, _, hc0⟩ := Sl.at HII.out hP4.ext (fun _ _ f => f.elim) (k + 1) HLK.out
          injection hbb with hbb
          injection hbb with hb1 hb2
          subst hb1 hb2
          have d0 : w4.cell? ⟨b0, off0 + (k + 1), none⟩ = some (.int .i64 (y : Int)) := by
            have := hc0 0 (.int .i64 (n.kids[k + 1]'HLK.out)) rfl
            have hy2 : n.kids[k + 1]'HLK.out = (y : Int) := by
              have := HY.out.1
              rw [List.getElem?_eq_getElem HLK.out] at this
              exact Option.some.inj this
            rw [hy2] at this
            simpa using this
          have HP4 := Lib.hid hP4
          clear hP4 hc0
          go_wp2_with fail
          refine (HP4.out.num y 4 (.inr (.inr rfl)) HY.out.2 (by have := HPL.out; simp only [List.length_append] at this ⊢; omega)).mono ?_
          rintro e w5 ⟨rfl, hP5, _, _⟩
          have HP5 := Lib.hid hP5
          clear hP5
          go_wp2_with fail
          go_roundg (gk - 1)
          case measure => omega
          case rel => exact ⟨k + 1, by omega, by go_num, Lib.hid (by rw [HPRE.out, HBY.out]; have := HP5.out; simpa only [List.append_assoc] using this)⟩
        · have hke : k = n.keys.length := by omega
          have HPE := Lib.hid HPk.out
          rw [innerPre_all HLF.out HG3.out hke] at HPE
          obtain ⟨a, c, hBW, hOW⟩ := HPE.out.wr.box
          have b0 := hBW.cell (o := 0) (v := .slice a (bytesN n).length c) rfl
          have b1 := hBW.cell (o := 1) (v := .nilIface) rfl
          have HOW := Lib.hid hOW
          clear hBW hOW hke
          go_wp2_with fail
          go_region_held3 (fun w' => w'.cell? ⟨w1.heap.size, 0, none⟩ = some (.slice a (bytesN n).length c) ∧ w'.cell? ⟨w1.heap.size, 1, none⟩ = some .nilIface)
            (first | (with_reducible exact ⟨b0, b1⟩) | go_keep)
            (first
              | (go_at_call 40; refine (wrap_nil _ _).mono ?_; rintro e w2 ⟨rfl, rfl⟩)
              | fail)
          all_goals
            go_wp2_with fail
            go_ret2
            exact ⟨HPE.out.ext.drew, .inl ⟨HR.out, a, c, rfl, (HOW.out.rebase (by omega)).ext (Mods.refl _ wr).drew⟩⟩
    · have p1 := HP.out.box.cell (o := 1) (v := .slice ae n.entries.length ce) rfl
      have HSM : Hid (n.entries.length ≤ 65535 ∧ (bytesN n).length ≤ 100000) := Lib.hid ⟨right_len HLF.out HR.out, HLEN.out HR.out⟩
      go_wp2_with fail
      refine (HP.out.num n.entries.length 2 (.inr (.inl rfl)) (by have := HSM.out; omega) (by simp)).mono ?_
      rintro e w2 ⟨rfl, hP2, _, _⟩
      have p1 := hP2.box.cell (o := 1) (v := .slice ae n.entries.length ce) rfl
      rw [List.nil_append, ← leafPre_zero n] at hP2
      have HP2 := Lib.hid hP2
      have hz2 := hP2.ext.size
      clear hP2 HP
      go_wp2_with fail
      go_loopg [28] n.entries.length (fun m i wr => ∃ k : Nat, k + m = n.entries.length ∧ i = .int .i64 k ∧ Hid (PutAt ad F w wr (.slice ae n.entries.length ce) (.slice ak n.keys.length ck) (.slice ai n.kids.length ci) true w1.heap.size (leafPre n k)))
      case atStart => exact ⟨0, by omega, rfl, HP2⟩
      case round =>
        obtain ⟨k, hkm, rfl, HPk⟩ := hrel
        by_cases hlt : k < n.entries.length
        · obtain ⟨b, off, rfl, hb, hF, hc⟩ := Sl.at HEE.out HPk.out.ext (fun _ _ f => f.elim) k hlt
          have hen : n.entries[k]? = some n.entries[k] := List.getElem?_eq_getElem hlt
          have hpre := leafPre_step n hen
          have hre := right_entry HLF.out HR.out hen
          have hpl : (leafPre n (k + 1)).length ≤ 100000 := Nat.le_trans (leafPre_len HLF.out (k + 1)) HSM.out.2
          rw [hpre, List.length_append] at hpl
          have c0 := hc 0 _ rfl
          simp only [Nat.add_zero] at c0
          have c1 := hc 1 _ rfl
          have c2 := hc 2 _ rfl
          have c3 := hc 3 _ rfl
          clear hc hen
          generalize n.entries[k] = en at *
          obtain ⟨key, value, chain, size⟩ := en
          have HPRE := Lib.hid hpre
          clear hpre
          simp only at c0 c1 c2 c3
          unfold rightE at hre
          simp only [Bool.and_eq_true] at hre
          obtain ⟨hk, hre⟩ := hre
          have hk2 : key.size < 256 := by have := (keyB_iff key).1 hk; omega
          have hnB : wr.heap.size ≠ w1.heap.size := by
            obtain ⟨_, _, hbb, _⟩ := HPk.out.wr.box
            have := hbb.lt; omega
          have HNB := Lib.hid hnB
          have HBE := Lib.hid (Blk.new wr #[.string key, .string value, .int .i64 chain, .int .i64 size] 107)
          clear hk hnB
          by_cases hz : chain = 0
          · rw [if_pos hz] at hre
            subst hz
            simp only [Bool.and_eq_true, decide_eq_true_eq] at hre
            have HV := Lib.hid hre.2
            have HBY : Hid (bytesE ⟨key, value, 0, size⟩ = bytesT key ++ (leB 1 0 ++ bytesT value)) := Lib.hid rfl
            have HPL : Hid ((leafPre n k).length + (bytesT key ++ (leB 1 0 ++ bytesT value)).length ≤ 100000) := Lib.hid hpl
            clear hre hpl
            go_wp2_with fail
            refine ((HPk.out.alloc _).text key hk2 (by have := HPL.out; omega)).mono ?_
            rintro e w3 ⟨rfl, hP3, _, hf3⟩
            have hB3 := hf3 _ _ _ HNB.out (by decide) HBE.out
            have q1 := hB3.cell (o := 1) (v := .string value) rfl
            have q2 := hB3.cell (o := 2) (v := .int .i64 0) rfl
            have HB3 := Lib.hid hB3
            have HP3 := Lib.hid hP3
            clear hB3 hP3 hf3
            go_wp2_with fail
            refine (HP3.out.num 0 1 (.inl rfl) (by decide) (by have := HPL.out; simp only [List.length_append] at this ⊢; omega)).mono ?_
            rintro e w4 ⟨rfl, hP4, _, hf4⟩
            have hB4 := hf4 _ _ _ HNB.out (by decide) HB3.out
            have q1 := hB4.cell (o := 1) (v := .string value) rfl
            have HP4 := Lib.hid hP4
            clear hB4 hP4 hf4
            go_wp2_with fail
            refine (HP4.out.text value (by have := HV.out; omega) (by have := HPL.out; simp only [List.length_append] at this ⊢; omega)).mono ?_
            rintro e w5 ⟨rfl, hP5, _, _⟩
            have HP5 := Lib.hid hP5
            clear hP5
            go_wp2_with fail
            go_roundg (gk - 1)
            case measure => omega
            case rel => exact ⟨k + 1, by omega, by go_num, Lib.hid (by rw [HPRE.out, HBY.out]; have := HP5.out; simpa only [List.append_assoc] using this)⟩
          · rw [if_neg hz] at hre
            simp only [Bool.and_eq_true, decide_eq_true_eq, kidB] at hre
            obtain ⟨⟨⟨⟨g1, g2⟩, g3⟩, g4⟩, g5⟩ := hre
            obtain ⟨cn, rfl⟩ : ∃ cn : Nat, chain = (cn : Int) := ⟨chain.toNat, by omega⟩
            obtain ⟨sn, rfl⟩ : ∃ sn : Nat, size = (sn : Int) := ⟨size.toNat, by omega⟩
            have hzb : ((cn : Int) == 0) = false := beq_eq_false_iff_ne.2 hz
            have HBY : Hid (bytesE ⟨key, value, (cn : Int), (sn : Int)⟩ = bytesT key ++ (leB 1 1 ++ (leB 4 cn ++ leB 4 sn))) := Lib.hid (by unfold bytesE; simp only [if_neg hz, Int.toNat_natCast])
            have HPL : Hid ((leafPre n k).length + (bytesT key ++ (leB 1 1 ++ (leB 4 cn ++ leB 4 sn))).length ≤ 100000) := Lib.hid (by rw [← HBY.out]; exact hpl)
            have HC : Hid (cn < 256 ^ 4 ∧ sn < 256 ^ 4) := Lib.hid (by constructor <;> omega)
            clear hpl hz g1 g2 g3 g4 g5
            go_wp2_with fail
            refine ((HPk.out.alloc _).text key hk2 (by have := HPL.out; omega)).mono ?_
            rintro e w3 ⟨rfl, hP3, _, hf3⟩
            have hB3 := hf3 _ _ _ HNB.out (by decide) HBE.out
            have q2 := hB3.cell (o := 2) (v := .int .i64 (cn : Int)) rfl
            have HB3 := Lib.hid hB3
            have HP3 := Lib.hid hP3
            clear hB3 hP3 hf3
            go_wp2_with fail
            refine (HP3.out.num 1 1 (.inl rfl) (by decide) (by have := HPL.out; simp only [List.length_append] at this ⊢; omega)).mono ?_
            rintro e w4 ⟨rfl, hP4, _, hf4⟩
            have hB4 := hf4 _ _ _ HNB.out (by decide) HB3.out
            have q2 := hB4.cell (o := 2) (v := .int .i64 (cn : Int)) rfl
            have HB4 := Lib.hid hB4
            have HP4 := Lib.hid hP4
            clear hB4 hP4 hf4
            go_wp2_with fail
            refine (HP4.out.num cn 4 (.inr (.inr rfl)) HC.out.1 (by have := HPL.out; simp only [List.length_append] at this ⊢; omega)).mono ?_
            rintro e w5 ⟨rfl, hP5, _, hf5⟩
            have hB5 := hf5 _ _ _ HNB.out (by decide) HB4.out
            have q3 := hB5.cell (o := 3) (v := .int .i64 (sn : Int)) rfl
            have HP5 := Lib.hid hP5
            clear hB5 hP5 hf5
            go_wp2_with fail
            refine (HP5.out.num sn 4 (.inr (.inr rfl)) HC.out.2 (by have := HPL.out; simp only [List.length_append] at this ⊢; omega)).mono ?_
            rintro e w6 ⟨rfl, hP6, _, _⟩
            have HP6 := Lib.hid hP6
            clear hP6
            go_wp2_with fail
            go_roundg (gk - 1)
            case measure => omega
            case rel => exact ⟨k + 1, by omega, by go_num, Lib.hid (by rw [HPRE.out, HBY.out]; have := HP6.out; simpa only [List.append_assoc] using this)⟩
        · have hke : k = n.entries.length := by omega
          have HPE := Lib.hid HPk.out
          rw [leafPre_all HLF.out hke] at HPE
          obtain ⟨a, c, hBW, hOW⟩ := HPE.out.wr.box
          have b0 := hBW.cell (o := 0) (v := .slice a (bytesN n).length c) rfl
          have b1 := hBW.cell (o := 1) (v := .nilIface) rfl
          have HOW := Lib.hid hOW
          clear hBW hOW hke
          go_wp2_with fail
          go_region_held3 (fun w' => w'.cell? ⟨w1.heap.size, 0, none⟩ = some (.slice a (bytesN n).length c) ∧ w'.cell? ⟨w1.heap.size, 1, none⟩ = some .nilIface)
            (first | (with_reducible exact ⟨b0, b1⟩) | go_keep)
            (first
              | (go_at_call 40; refine (wrap_nil _ _).mono ?_; rintro e w2 ⟨rfl, rfl⟩)
              | fail)
          all_goals
            go_wp2_with fail
            go_ret2
            exact ⟨HPE.out.ext.drew, .inl ⟨HR.out, a, c, rfl, (HOW.out.rebase (by omega)).ext (Mods.refl _ wr).drew⟩⟩
end
end Go.Proofs.YtmgfneijcfjlfaaGreatDoor
