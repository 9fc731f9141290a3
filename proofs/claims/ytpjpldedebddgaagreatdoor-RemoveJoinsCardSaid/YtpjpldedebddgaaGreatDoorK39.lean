/- ref03.Take; ref07.take, word, one. | ref07.Key at a known answer. | ref07.one, entry, kid, in. | ref07.entry, in. -/
import Derived.Test.YtpjpldedebddgaaGreatDoorK23
import Derived.Test.YtpjpldedebddgaaGreatDoorK08
import Derived.Test.YtpjpldedebddgaaGreatDoorK26
import Derived.IntWalk
import Derived.Test.YtpjpldedebddgaaGreatDoorK27
import Derived.Test.YtpjpldedebddgaaGreatDoorK07
import Derived.Test.YtpjpldedebddgaaGreatDoorK25
namespace Go.Proofs.YtpjpldedebddgaaGreatDoor
open Go.RowKit
attribute [local go_sem ↓] Go.wp_at_zero Go.wp_at_succ
section
variable {F : Nat → Prop} {w w' wr w2 : World}
theorem ofLe_snoc : ∀ (l : List UInt8) (x : UInt8), ofLe (l ++ [x]) = ofLe l + x.toNat * 256 ^ l.length
  | [], x => by simp [ofLe]
  | y :: l, x => by
    rw [List.cons_append, ofLe, ofLe, ofLe_snoc l x, List.length_cons, Nat.pow_succ, Nat.mul_add, Nat.add_assoc]
    congr 2
    rw [Nat.mul_comm 256 (x.toNat * 256 ^ l.length), Nat.mul_assoc]
/-- ref03.Take: the number, and the code. -/
def Take03 (l : List UInt8) (p : Int) (W : Nat) (w : World) (e : Ending) (w' : World) : Prop :=
  ∃ (v c : Nat), e = .returned (.tuple #[.int .u64 (v : Int), .int .i64 (c : Int)]) ∧ ((c = 0 ∧ (takeF l p W).2 = none ∧ v = (takeF l p W).1) ∨ (c ≠ 0 ∧ c < 10 ∧ ∃ er, (takeF l p W).2 = some er)) ∧ w = w'
end
end Go.Proofs.YtpjpldedebddgaaGreatDoor
namespace Go.Proofs.YtpjpldedebddgaaGreatDoor
open Go.RowKit
theorem key07_t (s : ByteArray) (w : World) (b : Bool) (h : keyB s = b) : Calls Tryz.prog 33 #[.string s] w fun e w' => e = .returned (.bool b) ∧ w = w' := by
  have := key07_any s w; rw [h] at this; exact this
end Go.Proofs.YtpjpldedebddgaaGreatDoor
namespace Go.Proofs.YtpjpldedebddgaaGreatDoor
open Go.RowKit
attribute [local go_sem ↓] Go.wp_at_zero Go.wp_at_succ
section
variable {F : Nat → Prop} {w w' wr w2 : World}
set_option maxRecDepth 100000 in
theorem kid07_any (n : Int) (w : World) : Calls Tryz.prog 77 #[.int .i64 n] w fun e w' => e = .returned (.bool (kidB n)) ∧ w = w' := by
  unfold kidB
  by_cases h : 2 ≤ n
  · by_cases h2 : n ≤ 255
    · have e1 : n < 256 := by omega
      go_enter Tryz.func77, Tryz.ntmps77
      go_wp2_with fail
      go_ret
      exact ⟨by simp; omega, rfl⟩
    · go_enter Tryz.func77, Tryz.ntmps77
      go_wp2_with fail
      go_ret
      exact ⟨by simp; omega, rfl⟩
  · go_enter Tryz.func77, Tryz.ntmps77
    go_wp2_with fail
    go_ret
    exact ⟨by simp; omega, rfl⟩
end
end Go.Proofs.YtpjpldedebddgaaGreatDoor
namespace Go.Proofs.YtpjpldedebddgaaGreatDoor
open Go.RowKit
attribute [local go_sem ↓] Go.wp_at_zero Go.wp_at_succ
section
variable {F : Nat → Prop} {w w' wr w2 : World}
set_option maxRecDepth 100000 in
theorem entry07_c (k v : ByteArray) (c z : Int) (w : World) :
    Calls Tryz.prog 76 #[.agg #[.string k, .string v, .int .i64 c, .int .i64 z]] w fun x w' => x = .returned (.bool (rightE ⟨k, v, c, z⟩)) ∧ Ext w w' := by
  have HM : Hid (Ext w (w.alloc (.cells #[.string k, .string v, .int .i64 c, .int .i64 z] 114))) := Lib.hid ((Mods.refl _ w).alloc _)
  by_cases hc : c = 0
  · subst hc
    cases hkb : keyB k with
    | false =>
      have HK := Lib.hid (fun w => key07_t k w false hkb)
      have HR : Hid (rightE ⟨k, v, 0, z⟩ = false) := Lib.hid (by unfold rightE; simp [hkb])
      clear hkb
      go_enter Tryz.func76, Tryz.ntmps76
      go_wp2_with fail
      refine (HK.out _).mono ?_
      rintro e w1 ⟨rfl, rfl⟩
      go_wp2_with fail
      go_ret
      exact ⟨by rw [HR.out]; rfl, HM.out⟩
    | true =>
      have HK := Lib.hid (fun w => key07_t k w true hkb)
      have HR : Hid (rightE ⟨k, v, 0, z⟩ = (decide (z = 0) && decide (v.size ≤ 24))) := Lib.hid (by unfold rightE; simp [hkb])
      clear hkb
      by_cases h1 : (v.size : Int) ≤ 24
      · have HR2 : Hid (rightE ⟨k, v, 0, z⟩ = (z == 0)) := Lib.hid (by rw [HR.out, decide_eq_true (show v.size ≤ 24 by omega), Bool.and_true]; rfl)
        go_enter Tryz.func76, Tryz.ntmps76
        go_wp2_with fail
        refine (HK.out _).mono ?_
        rintro e w1 ⟨rfl, rfl⟩
        go_wp2_with fail
        go_ret
        exact ⟨by rw [HR2.out]; rfl, HM.out⟩
      · have HR2 : Hid (rightE ⟨k, v, 0, z⟩ = false) := Lib.hid (by rw [HR.out, decide_eq_false (show ¬ v.size ≤ 24 by omega), Bool.and_false])
        go_enter Tryz.func76, Tryz.ntmps76
        go_wp2_with fail
        refine (HK.out _).mono ?_
        rintro e w1 ⟨rfl, rfl⟩
        go_wp2_with fail
        go_ret
        exact ⟨by rw [HR2.out]; rfl, HM.out⟩
  · have hcb : (c == 0) = false := by rw [beq_eq_false_iff_ne]; exact hc
    cases hkb : keyB k with
    | false =>
      have HK := Lib.hid (fun w => key07_t k w false hkb)
      have HR : Hid (rightE ⟨k, v, c, z⟩ = false) := Lib.hid (by unfold rightE; simp [hkb])
      clear hkb hc
      go_enter Tryz.func76, Tryz.ntmps76
      go_wp2_with fail
      refine (HK.out _).mono ?_
      rintro e w1 ⟨rfl, rfl⟩
      go_wp2_with fail
      go_ret
      exact ⟨by rw [HR.out]; rfl, HM.out⟩
    | true =>
      have HK := Lib.hid (fun w => key07_t k w true hkb)
      have HR : Hid (rightE ⟨k, v, c, z⟩ = (kidB c && decide (v.size = 0) && decide (24 < z) && decide (z ≤ 4096))) := Lib.hid (by unfold rightE; simp [hkb, hc])
      clear hkb hc
      cases hkd : kidB c with
      | false =>
        have HKD : Hid (∀ w, Calls Tryz.prog 77 #[.int .i64 c] w fun e w' => e = .returned (.bool false) ∧ w = w') := Lib.hid (fun w => by have := kid07_any c w; rw [hkd] at this; exact this)
        have HR2 : Hid (rightE ⟨k, v, c, z⟩ = false) := Lib.hid (by rw [HR.out, hkd]; rfl)
        clear hkd
        go_enter Tryz.func76, Tryz.ntmps76
        go_wp2_with fail
        refine (HK.out _).mono ?_
        rintro e w1 ⟨rfl, rfl⟩
        go_wp2_with fail
        refine (HKD.out _).mono ?_
        rintro e w1 ⟨rfl, rfl⟩
        go_wp2_with fail
        go_ret
        exact ⟨by rw [HR2.out]; rfl, HM.out⟩
      | true =>
        have HKD : Hid (∀ w, Calls Tryz.prog 77 #[.int .i64 c] w fun e w' => e = .returned (.bool true) ∧ w = w') := Lib.hid (fun w => by have := kid07_any c w; rw [hkd] at this; exact this)
        have HR1 : Hid (rightE ⟨k, v, c, z⟩ = (decide (v.size = 0) && decide (24 < z) && decide (z ≤ 4096))) := Lib.hid (by rw [HR.out, hkd]; simp)
        clear hkd
        by_cases h1 : v.size = 0
        · have h1b : ((v.size : Int) == 0) = true := by rw [beq_iff_eq]; omega
          have HR2 : Hid (rightE ⟨k, v, c, z⟩ = (decide (24 < z) && decide (z ≤ 4096))) := Lib.hid (by rw [HR1.out]; simp [h1])
          clear h1
          by_cases h2 : 25 ≤ z
          · have HR3 : Hid (rightE ⟨k, v, c, z⟩ = decide (z ≤ 4096)) := Lib.hid (by rw [HR2.out, decide_eq_true (show 24 < z by omega), Bool.true_and])
            go_enter Tryz.func76, Tryz.ntmps76
            go_wp2_with fail
            refine (HK.out _).mono ?_
            rintro e w1 ⟨rfl, rfl⟩
            go_wp2_with fail
            refine (HKD.out _).mono ?_
            rintro e w1 ⟨rfl, rfl⟩
            go_wp2_with fail
            go_ret
            exact ⟨by rw [HR3.out]; rfl, HM.out⟩
          · have HR3 : Hid (rightE ⟨k, v, c, z⟩ = false) := Lib.hid (by rw [HR2.out, decide_eq_false (show ¬ 24 < z by omega), Bool.false_and])
            go_enter Tryz.func76, Tryz.ntmps76
            go_wp2_with fail
            refine (HK.out _).mono ?_
            rintro e w1 ⟨rfl, rfl⟩
            go_wp2_with fail
            refine (HKD.out _).mono ?_
            rintro e w1 ⟨rfl, rfl⟩
            go_wp2_with fail
            go_ret
            exact ⟨by rw [HR3.out]; rfl, HM.out⟩
        · have h1b : ((v.size : Int) == 0) = false := by rw [beq_eq_false_iff_ne]; omega
          have HR2 : Hid (rightE ⟨k, v, c, z⟩ = false) := Lib.hid (by rw [HR1.out]; simp [h1])
          clear h1
          go_enter Tryz.func76, Tryz.ntmps76
          go_wp2_with fail
          refine (HK.out _).mono ?_
          rintro e w1 ⟨rfl, rfl⟩
          go_wp2_with fail
          refine (HKD.out _).mono ?_
          rintro e w1 ⟨rfl, rfl⟩
          go_wp2_with fail
          go_ret
          exact ⟨by rw [HR2.out]; rfl, HM.out⟩
theorem entry07_t (e : EntryA) (w : World) (b : Bool) (hb : rightE e = b) :
    Calls Tryz.prog 76 #[.agg #[.string e.key, .string e.value, .int .i64 e.chain, .int .i64 e.size]] w fun x w' => x = .returned (.bool b) ∧ Ext w w' := by
  subst hb
  exact entry07_c e.key e.value e.chain e.size w
set_option maxRecDepth 100000 in
theorem in07_any (l : List Int) (v : Value) (hl : Sl F w 1 encI v l) (n : Int) :
    Calls Tryz.prog 78 #[v, .int .i64 n] w fun x w' => x = .returned (.bool (decide (n ∈ l))) ∧ w = w' := by
  obtain ⟨la, lc, rfl, h1, h2, h3, hll⟩ := hl
  unfold maxLen at h2
  have HLL := Lib.hid hll
  clear hll
  go_enter Tryz.func78, Tryz.ntmps78
  go_wp2_with fail
  go_loopg [5] l.length (fun m v5 wr => wr = w ∧ ∃ (k : Nat), k + m = l.length ∧ v5 = .int .i64 (k : Int) ∧ Hid (n ∉ l.take k))
  case atStart => exact ⟨rfl, 0, by omega, rfl, Lib.hid (by simp)⟩
  case round =>
    obtain ⟨rfl, k, hkm, rfl, HS⟩ := hrel
    by_cases hlt : k < l.length
    · obtain ⟨b, off, rfl, hb, hF, hc⟩ := Sl.at HLL.out (Mods.refl F wr) (fun _ _ f => f) k hlt
      obtain ⟨x, hx⟩ : ∃ x, l[k]? = some x := ⟨_, List.getElem?_eq_getElem hlt⟩
      have hx' : l[k] = x := by rw [List.getElem?_eq_getElem hlt] at hx; exact Option.some.inj hx
      rw [hx'] at hc
      have c0 : wr.cell? ⟨b, off + k, none⟩ = some (.int .i64 x) := by have := hc 0 _ rfl; simpa using this
      have HX := Lib.hid hx
      clear hc hx hx'
      have i1 : (0 : Int) ≤ (k : Int) := by omega
      have i2 : (k : Int) < (l.length : Int) := by omega
      by_cases hxn : x = n
      · subst hxn
        have HR : Hid (decide (x ∈ l) = true) := Lib.hid (decide_eq_true (List.mem_of_getElem? HX.out))
        go_wp2_with fail
        go_ret
        exact ⟨by rw [HR.out]; rfl, rfl⟩
      · have hb1 : (x == n) = false := beq_eq_false_iff_ne.2 hxn
        have HS2 : Hid (n ∉ l.take (k + 1)) := Lib.hid (by
          rw [take_one l k x HX.out, List.mem_append, List.mem_singleton]
          exact fun h => h.elim HS.out (fun e => hxn e.symm))
        clear hxn
        go_wp2_with fail
        go_roundg (gk - 1)
        case measure => omega
        case rel => exact ⟨rfl, k + 1, by omega, by go_num, HS2⟩
    · have HR : Hid (decide (n ∈ l) = false) := Lib.hid (decide_eq_false (by have := HS.out; rwa [List.take_of_length_le (by omega)] at this))
      go_wp2_with fail
      go_ret
      exact ⟨by rw [HR.out]; rfl, rfl⟩
end
end Go.Proofs.YtpjpldedebddgaaGreatDoor
