/- ref07.one, entry, kid, in. | ref07.entry, in. -/
import Derived.Test.YtmgfneijcfjlfaaGreatDoorK42
import Derived.Test.YtmgfneijcfjlfaaGreatDoorK33
import Derived.Test.YtmgfneijcfjlfaaGreatDoorK07
import Derived.Test.YtmgfneijcfjlfaaGreatDoorK25
namespace Go.Proofs.YtmgfneijcfjlfaaGreatDoor
open Go.RowKit
attribute [local go_sem ↓] Go.wp_at_zero Go.wp_at_succ
section
variable {F : Nat → Prop} {w w' wr w2 : World}
theorem rfWord_b (l : List UInt8) (p : Int) (hp : -1 ≤ p) : -1 ≤ (rfWord l p).2 ∧ (rfWord l p).2 ≤ (l.length : Int) ∧ (0 ≤ (rfWord l p).2 → 1 ≤ (rfWord l p).2) := by
  have h := rfTake_b l p 1 (.inl rfl) hp
  unfold rfWord
  simp only
  split
  · exact ⟨by simp, by show (-1 : Int) ≤ _; omega, fun h => by exact absurd h (by decide)⟩
  · rename_i hc
    simp only
    omega
theorem word07_t (l : List UInt8) (bv : Value) (hb : Sl F w 1 encB bv l) (hl : l.length ≤ 100000) (p : Int) (hp : -1 ≤ p ∧ p ≤ 1000000) (s : ByteArray) (q : Int) (hx : rfWord l p = (s, q)) :
    Calls Tryz.prog 50 #[bv, .int .i64 p] w fun e w' => e = .returned (.tuple #[.string s, .int .i64 q]) ∧ w = w' := by
  have := word07_any l bv hb hl p hp
  rw [hx] at this
  exact this
/-- an entry, and the place behind it. -/
def One07 (l : List UInt8) (p : Int) (w : World) (e : Ending) (w' : World) : Prop :=
  e = .returned (.tuple #[.agg #[.string (rfOne l p).1.key, .string (rfOne l p).1.value, .int .i64 (rfOne l p).1.chain, .int .i64 (rfOne l p).1.size], .int .i64 (rfOne l p).2]) ∧ Ext w w'
set_option maxRecDepth 100000 in
set_option maxHeartbeats 1000000 in
theorem one07_any (l : List UInt8) (bv : Value) (hb : Sl F w 1 encB bv l) (hl : l.length ≤ 100000) (p : Int) (hp : -1 ≤ p ∧ p ≤ 1000000) :
    Calls Tryz.prog 49 #[bv, .int .i64 p] w (One07 l p w) := by
  have m0 : Ext w (w.alloc (.cells #[.string ⟨#[]⟩, .string ⟨#[]⟩, .int .i64 0, .int .i64 0] 107)) := (Mods.refl _ w).alloc _
  have hb0 := hb.ext m0
  obtain ⟨k, q1, hx1⟩ : ∃ k q, rfWord l p = (k, q) := ⟨_, _, rfl⟩
  have hq1 := rfWord_b l p hp.1
  rw [hx1] at hq1
  obtain ⟨c, q2, hx2⟩ : ∃ n q, rfTake l q1 1 = (n, q) := ⟨_, _, rfl⟩
  have hq2 := rfTake_b l q1 1 (.inl rfl) hq1.1
  rw [hx2] at hq2
  have HC1 := Lib.hid (word07_t l bv hb0 hl p hp k q1 hx1)
  have HC2 := Lib.hid (take07_t l bv hb0 q1 ⟨hq1.1, by have := hq1.2.1; simp only at this; omega⟩ 1 (.inl rfl) c q2 hx2 1 rfl)
  have HB0 := Lib.hid (Blk.new w #[.string ⟨#[]⟩, .string ⟨#[]⟩, .int .i64 0, .int .i64 0] 107)
  have HM0 := Lib.hid m0
  have HX1 := Lib.hid hx1
  have HX2 := Lib.hid hx2
  obtain ⟨ba, bc, rfl, _, _, _, _⟩ := _root_.id hb
  have hc32 : c < 4294967296 := hq2.1
  by_cases hc : c = 0
  · subst hc
    obtain ⟨v, q3, hx3⟩ : ∃ k q, rfWord l q2 = (k, q) := ⟨_, _, rfl⟩
    have HC3 := Lib.hid (word07_t l _ hb0 hl q2 ⟨hq2.2.1, by have := hq2.2.2.1; simp only at this; omega⟩ v q3 hx3)
    have HR : Hid (rfOne l p = (⟨k, v, 0, 0⟩, q3)) := Lib.hid (by unfold rfOne; simp only [hx1, hx2, hx3, if_true])
    have HBR : Hid (Blk (w.alloc (.cells #[.string k, .string v, .int .i64 0, .int .i64 0] 107)) w.heap.size #[.string k, .string v, .int .i64 0, .int .i64 0] 107) := Lib.hid (Blk.new w _ _)
    have HMX : Hid (Ext w (w.alloc (.cells #[.string k, .string v, .int .i64 0, .int .i64 0] 107))) := Lib.hid ((Mods.refl _ w).alloc _)
    clear m0 hb hb0 hx1 hx2 hx3 hq1 hq2
    go_enter Tryz.func49, Tryz.ntmps49
    go_wp2_with fail
    refine (HC1.out).mono ?_
    rintro e w1 ⟨rfl, rfl⟩
    go_wp2_with fail
    refine (HC2.out).mono ?_
    rintro e w1 ⟨rfl, rfl⟩
    go_wp2_with fail
    refine (HC3.out).mono ?_
    rintro e w1 ⟨rfl, rfl⟩
    go_wp2_with fail
    refine bodyPost_ret (results_row_tmp rfl _ _ w.heap.size 107 #[.string k, .string v, .int .i64 0, .int .i64 0] _ rfl HBR.out Tryz.underlying107 rfl Tryz.entSize) rfl ?_
    exact ⟨by rw [HR.out]; rfl, HMX.out⟩
  · obtain ⟨x, q3, hx3⟩ : ∃ n q, rfTake l q2 4 = (n, q) := ⟨_, _, rfl⟩
    have hq3 := rfTake_b l q2 4 (.inr (.inr rfl)) hq2.2.1
    rw [hx3] at hq3
    obtain ⟨y, q4, hx4⟩ : ∃ n q, rfTake l q3 4 = (n, q) := ⟨_, _, rfl⟩
    have HC3 := Lib.hid (take07_t l _ hb0 q2 ⟨hq2.2.1, by have := hq2.2.2.1; simp only at this; omega⟩ 4 (.inr (.inr rfl)) x q3 hx3 4 rfl)
    have HC4 := Lib.hid (take07_t l _ hb0 q3 ⟨hq3.2.1, by have := hq3.2.2.1; simp only at this; omega⟩ 4 (.inr (.inr rfl)) y q4 hx4 4 rfl)
    have HR : Hid (rfOne l p = (⟨k, ⟨#[]⟩, (x : Int), (y : Int)⟩, q4)) := Lib.hid (by unfold rfOne; simp only [hx1, hx2, hx3, hx4, if_neg hc])
    have HBR : Hid (Blk (w.alloc (.cells #[.string k, .string ⟨#[]⟩, .int .i64 (x : Int), .int .i64 (y : Int)] 107)) w.heap.size #[.string k, .string ⟨#[]⟩, .int .i64 (x : Int), .int .i64 (y : Int)] 107) := Lib.hid (Blk.new w _ _)
    have HMX : Hid (Ext w (w.alloc (.cells #[.string k, .string ⟨#[]⟩, .int .i64 (x : Int), .int .i64 (y : Int)] 107))) := Lib.hid ((Mods.refl _ w).alloc _)
    have hcb : ((c : Int) == 0) = false := by rw [beq_eq_false_iff_ne]; omega
    clear m0 hb hb0 hx1 hx2 hx3 hx4 hq1 hq2 hq3 hc
    go_enter Tryz.func49, Tryz.ntmps49
    go_wp2_with fail
    refine (HC1.out).mono ?_
    rintro e w1 ⟨rfl, rfl⟩
    go_wp2_with fail
    refine (HC2.out).mono ?_
    rintro e w1 ⟨rfl, rfl⟩
    go_wp2_with fail
    refine (HC3.out).mono ?_
    rintro e w1 ⟨rfl, rfl⟩
    go_wp2_with fail
    refine (HC4.out).mono ?_
    rintro e w1 ⟨rfl, rfl⟩
    go_wp2_with fail
    refine bodyPost_ret (results_row_tmp rfl _ _ w.heap.size 107 #[.string k, .string ⟨#[]⟩, .int .i64 (x : Int), .int .i64 (y : Int)] _ rfl HBR.out Tryz.underlying107 rfl Tryz.entSize) rfl ?_
    exact ⟨by rw [HR.out]; rfl, HMX.out⟩
set_option maxRecDepth 100000 in
theorem kid07_any (n : Int) (w : World) : Calls Tryz.prog 87 #[.int .i64 n] w fun e w' => e = .returned (.bool (kidB n)) ∧ w = w' := by
  unfold kidB
  by_cases h : 2 ≤ n
  · by_cases h2 : n ≤ 255
    · have e1 : n < 256 := by omega
      go_enter Tryz.func87, Tryz.ntmps87
      go_wp2_with fail
      go_ret
      exact ⟨by simp; omega, rfl⟩
    · go_enter Tryz.func87, Tryz.ntmps87
      go_wp2_with fail
      go_ret
      exact ⟨by simp; omega, rfl⟩
  · go_enter Tryz.func87, Tryz.ntmps87
    go_wp2_with fail
    go_ret
    exact ⟨by simp; omega, rfl⟩
end
end Go.Proofs.YtmgfneijcfjlfaaGreatDoor
namespace Go.Proofs.YtmgfneijcfjlfaaGreatDoor
open Go.RowKit
attribute [local go_sem ↓] Go.wp_at_zero Go.wp_at_succ
section
variable {F : Nat → Prop} {w w' wr w2 : World}
set_option maxRecDepth 100000 in
theorem entry07_c (k v : ByteArray) (c z : Int) (w : World) :
    Calls Tryz.prog 86 #[.agg #[.string k, .string v, .int .i64 c, .int .i64 z]] w fun x w' => x = .returned (.bool (rightE ⟨k, v, c, z⟩)) ∧ Ext w w' := by
  have HM : Hid (Ext w (w.alloc (.cells #[.string k, .string v, .int .i64 c, .int .i64 z] 107))) := Lib.hid ((Mods.refl _ w).alloc _)
  by_cases hc : c = 0
  · subst hc
    cases hkb : keyB k with
    | false =>
      have HK := Lib.hid (fun w => key07_t k w false hkb)
      have HR : Hid (rightE ⟨k, v, 0, z⟩ = false) := Lib.hid (by unfold rightE; simp [hkb])
      clear hkb
      go_enter Tryz.func86, Tryz.ntmps86
      go_wp2_with fail
      refine (HK.out _).mono ?_
      rintro e w1 ⟨rfl, rfl⟩
      go_wp2_with fail
      go_ret
      exact ⟨by rw [HR.out]; rfl, HM.out⟩
    | true =>
      have HK := Lib.hid (fun w => key07_t k w true hkb)
      have HR : Hid (rightE ⟨k, v, 0, z⟩ = (decide (z = 0) && decide (v.size ≤ 24))) := Lib.hid (by unfold rightE; simp [hkb])
      clear hkb
      by_cases h1 : (v.size : Int) ≤ 24
      · have HR2 : Hid (rightE ⟨k, v, 0, z⟩ = (z == 0)) := Lib.hid (by rw [HR.out, decide_eq_true (show v.size ≤ 24 by omega), Bool.and_true]; rfl)
        go_enter Tryz.func86, Tryz.ntmps86
        go_wp2_with fail
        refine (HK.out _).mono ?_
        rintro e w1 ⟨rfl, rfl⟩
        go_wp2_with fail
        go_ret
        exact ⟨by rw [HR2.out]; rfl, HM.out⟩
      · have HR2 : Hid (rightE ⟨k, v, 0, z⟩ = false) := Lib.hid (by rw [HR.out, decide_eq_false (show ¬ v.size ≤ 24 by omega), Bool.and_false])
        go_enter Tryz.func86, Tryz.ntmps86
        go_wp2_with fail
        refine (HK.out _).mono ?_
        rintro e w1 ⟨rfl, rfl⟩
        go_wp2_with fail
        go_ret
        exact ⟨by rw [HR2.out]; rfl, HM.out⟩
  · have hcb : (c == 0) = false := by rw [beq_eq_false_iff_ne]; exact hc
    cases hkb : keyB k with
    | false =>
      have HK := Lib.hid (fun w => key07_t k w false hkb)
      have HR : Hid (rightE ⟨k, v, c, z⟩ = false) := Lib.hid (by unfold rightE; simp [hkb])
      clear hkb hc
      go_enter Tryz.func86, Tryz.ntmps86
      go_wp2_with fail
      refine (HK.out _).mono ?_
      rintro e w1 ⟨rfl, rfl⟩
      go_wp2_with fail
      go_ret
      exact ⟨by rw [HR.out]; rfl, HM.out⟩
    | true =>
      have HK := Lib.hid (fun w => key07_t k w true hkb)
      have HR : Hid (rightE ⟨k, v, c, z⟩ = (kidB c && decide (v.size = 0) && decide (24 < z) && decide (z ≤ 4096))) := Lib.hid (by unfold rightE; simp [hkb, hc])
      clear hkb hc
      cases hkd : kidB c with
      | false =>
        have HKD : Hid (∀ w, Calls Tryz.prog 87 #[.int .i64 c] w fun e w' => e = .returned (.bool false) ∧ w = w') := Lib.hid (fun w => by have := kid07_any c w; rw [hkd] at this; exact this)
        have HR2 : Hid (rightE ⟨k, v, c, z⟩ = false) := Lib.hid (by rw [HR.out, hkd]; rfl)
        clear hkd
        go_enter Tryz.func86, Tryz.ntmps86
        go_wp2_with fail
        refine (HK.out _).mono ?_
        rintro e w1 ⟨rfl, rfl⟩
        go_wp2_with fail
        refine (HKD.out _).mono ?_
        rintro e w1 ⟨rfl, rfl⟩
        go_wp2_with fail
        go_ret
        exact ⟨by rw [HR2.out]; rfl, HM.out⟩
      | true =>
        have HKD : Hid (∀ w, Calls Tryz.prog 87 #[.int .i64 c] w fun e w' => e = .returned (.bool true) ∧ w = w') := Lib.hid (fun w => by have := kid07_any c w; rw [hkd] at this; exact this)
        have HR1 : Hid (rightE ⟨k, v, c, z⟩ = (decide (v.size = 0) && decide (24 < z) && decide (z ≤ 4096))) := Lib.hid (by rw [HR.out, hkd]; simp)
        clear hkd
        by_cases h1 : v.size = 0
        · have h1b : ((v.size : Int) == 0) = true := by rw [beq_iff_eq]; omega
          have HR2 : Hid (rightE ⟨k, v, c, z⟩ = (decide (24 < z) && decide (z ≤ 4096))) := Lib.hid (by rw [HR1.out]; simp [h1])
          clear h1
          by_cases h2 : 25 ≤ z
          · have HR3 : Hid (rightE ⟨k, v, c, z⟩ = decide (z ≤ 4096)) := Lib.hid (by rw [HR2.out, decide_eq_true (show 24 < z by omega), Bool.true_and])
            go_enter Tryz.func86, Tryz.ntmps86
            go_wp2_with fail
            refine (HK.out _).mono ?_
            rintro e w1 ⟨rfl, rfl⟩
            go_wp2_with fail
            refine (HKD.out _).mono ?_
            rintro e w1 ⟨rfl, rfl⟩
            go_wp2_with fail
            go_ret
            exact ⟨by rw [HR3.out]; rfl, HM.out⟩
          · have HR3 : Hid (rightE ⟨k, v, c, z⟩ = false) := Lib.hid (by rw [HR2.out, decide_eq_false (show ¬ 24 < z by omega), Bool.false_and])
            go_enter Tryz.func86, Tryz.ntmps86
            go_wp2_with fail
            refine (HK.out _).mono ?_
            rintro e w1 ⟨rfl, rfl⟩
            go_wp2_with fail
            refine (HKD.out _).mono ?_
            rintro e w1 ⟨rfl, rfl⟩
            go_wp2_with fail
            go_ret
            exact ⟨by rw [HR3.out]; rfl, HM.out⟩
        · have h1b : ((v.size : Int) == 0) = false := by rw [beq_eq_false_iff_ne]; omega
          have HR2 : Hid (rightE ⟨k, v, c, z⟩ = false) := Lib.hid (by rw [HR1.out]; simp [h1])
          clear h1
          go_enter Tryz.func86, Tryz.ntmps86
          go_wp2_with fail
          refine (HK.out _).mono ?_
          rintro e w1 ⟨rfl, rfl⟩
          go_wp2_with fail
          refine (HKD.out _).mono ?_
          rintro e w1 ⟨rfl, rfl⟩
          go_wp2_with fail
          go_ret
          exact ⟨by rw [HR2.out]; rfl, HM.out⟩
theorem entry07_t (e : EntryA) (w : World) (b : Bool) (hb : rightE e = b) :
    Calls Tryz.prog 86 #[.agg #[.string e.key, .string e.value, .int .i64 e.chain, .int .i64 e.size]] w fun x w' => x = .returned (.bool b) ∧ Ext w w' := by
  subst hb
  exact entry07_c e.key e.value e.chain e.size w
set_option maxRecDepth 100000 in
theorem in07_any (l : List Int) (v : Value) (hl : Sl F w 1 encI v l) (n : Int) :
    Calls Tryz.prog 88 #[v, .int .i64 n] w fun x w' => x = .returned (.bool (decide (n ∈ l))) ∧ w = w' := by
  obtain ⟨la, lc, rfl, h1, h2, h3, hll⟩ := hl
  unfold maxLen at h2
  have HLL := Lib.hid hll
  clear hll
  go_enter Tryz.func88, Tryz.ntmps88
  go_wp2_with fail
  go_loopg [5] l.length (fun m v5 wr => wr = w ∧ ∃ (k : Nat), k + m = l.length ∧ v5 = .int .i64 (k : Int) ∧ Hid (n ∉ l.take k))
  case atStart => exact ⟨rfl, 0, by omega, rfl, Lib.hid (by simp)⟩
  case round =>
    obtain ⟨rfl, k, hkm, rfl, HS⟩ := hrel
    by_cases hlt : k < l.length
    · obtain ⟨b, off, rfl, hb, hF, hc⟩ := Sl.at HLL.out (Mods.refl F wr) (fun _ _ f => f) k hlt
      obtain ⟨x, hx⟩ : ∃ x, l[k]? = some x := ⟨_, List.getElem?_eq_getElem hlt⟩
      have hx' : l[k] = x := by rw [List.getElem?_eq_getElem hlt] at hx; exact Option.some.inj hx
      rw [hx'] at hc
      have c0 : wr.cell? ⟨b, off + k, none⟩ = some (.int .i64 x) := by have := hc 0 _ rfl; simpa using this
      have HX := Lib.hid hx
      clear hc hx hx'
      have i1 : (0 : Int) ≤ (k : Int) := by omega
      have i2 : (k : Int) < (l.length : Int) := by omega
      by_cases hxn : x = n
      · subst hxn
        have HR : Hid (decide (x ∈ l) = true) := Lib.hid (decide_eq_true (List.mem_of_getElem? HX.out))
        go_wp2_with fail
        go_ret
        exact ⟨by rw [HR.out]; rfl, rfl⟩
      · have hb1 : (x == n) = false := beq_eq_false_iff_ne.2 hxn
        have HS2 : Hid (n ∉ l.take (k + 1)) := Lib.hid (by
          rw [take_one l k x HX.out, List.mem_append, List.mem_singleton]
          exact fun h => h.elim HS.out (fun e => hxn e.symm))
        clear hxn
        go_wp2_with fail
        go_roundg (gk - 1)
        case measure => omega
        case rel => exact ⟨rfl, k + 1, by omega, by go_num, HS2⟩
    · have HR : Hid (decide (n ∈ l) = false) := Lib.hid (decide_eq_false (by have := HS.out; rwa [List.take_of_length_le (by omega)] at this))
      go_wp2_with fail
      go_ret
      exact ⟨by rw [HR.out]; rfl, rfl⟩
end
end Go.Proofs.YtmgfneijcfjlfaaGreatDoor
