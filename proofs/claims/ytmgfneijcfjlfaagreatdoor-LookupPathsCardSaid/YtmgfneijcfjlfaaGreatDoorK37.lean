/- ref07.Find. -/
import Derived.Test.YtmgfneijcfjlfaaGreatDoorK24
import Derived.BigQuiet
namespace Go.Proofs.YtmgfneijcfjlfaaGreatDoor
open Go.RowKit
attribute [local go_sem ↓] Go.wp_at_zero Go.wp_at_succ
section
variable {F : Nat → Prop} {w w' wr w2 : World}
def Find07 (n : NodeA) (key : ByteArray) (w : World) (e : Ending) (w' : World) : Prop := e = .returned (.tuple #[.int .i64 ((findN n key).1 : Int), .bool (findN n key).2]) ∧ Ext w w'
theorem findIdx_is {α : Type} {f : α → Bool} {l : List α} {k : Nat} {a : α} (hk : k ≤ l.findIdx f) (ha : l[k]? = some a) (hf : f a = true) : l.findIdx f = k := by
  rcases Nat.lt_or_ge k (l.findIdx f) with h | h
  · have := findIdx_lt h ha
    rw [this] at hf; cases hf
  · omega
theorem findIdx_on {α : Type} {f : α → Bool} {l : List α} {k : Nat} {a : α} (hk : k ≤ l.findIdx f) (ha : l[k]? = some a) (hf : f a = false) : k + 1 ≤ l.findIdx f := by
  rcases Nat.lt_or_ge k (l.findIdx f) with h | h
  · exact h
  · have e : l.findIdx f = k := by omega
    have := findIdx_at (f := f) (l := l) (a := a) (by rw [e]; exact ha)
    rw [this] at hf; cases hf
set_option maxRecDepth 100000 in
set_option maxHeartbeats 1000000 in
theorem find07_any (n : NodeA) (ve vk vi : Value) (key : ByteArray) (hve : Sl F w 4 encE ve n.entries) (hvk : Sl F w 1 encS vk n.keys) :
    Calls Tryz.prog 19 #[.agg #[.bool n.leaf, ve, vk, vi], .string key] w (Find07 n key w) := by
  obtain ⟨ea, ec, rfl, e1, e2, e3, hee⟩ := hve
  obtain ⟨ka, kc, rfl, k1, k2, k3, hkk⟩ := hvk
  unfold maxLen at e2 k2
  have HE := Lib.hid hee
  have HK := Lib.hid hkk
  have HB : Hid (Blk (w.alloc (.cells #[.bool n.leaf, .slice ea n.entries.length ec, .slice ka n.keys.length kc, vi] 57)) w.heap.size #[.bool n.leaf, .slice ea n.entries.length ec, .slice ka n.keys.length kc, vi] 57) := Lib.hid (Blk.new w _ _)
  have HM : Hid (Ext w (w.alloc (.cells #[.bool n.leaf, .slice ea n.entries.length ec, .slice ka n.keys.length kc, vi] 57))) := Lib.hid ((Mods.refl _ w).alloc _)
  have b0 := HB.out.cell (o := 0) (v := .bool n.leaf) rfl
  have b1 := HB.out.cell (o := 1) (v := .slice ea n.entries.length ec) rfl
  have b2 := HB.out.cell (o := 2) (v := .slice ka n.keys.length kc) rfl
  clear hee hkk
  cases hl : n.leaf with
  | true =>
    have HF : Hid (findN n key = (entAt key n.entries, entIs key n.entries)) := Lib.hid (findN_leaf hl key)
    rw [hl] at b0 HB HM b1 b2
    have HW : Hid (Ext w (w.alloc (.cells #[.bool true, .slice ea n.entries.length ec, .slice ka n.keys.length kc, vi] 57)) ∧ Blk (w.alloc (.cells #[.bool true, .slice ea n.entries.length ec, .slice ka n.keys.length kc, vi] 57)) w.heap.size #[.bool true, .slice ea n.entries.length ec, .slice ka n.keys.length kc, vi] 57) := Lib.hid ⟨HM.out, HB.out⟩
    clear hl HM HB
    go_enter Tryz.func19, Tryz.ntmps19
    go_wp2_with fail
    go_loopg [6] n.entries.length (fun m v6 wr => ∃ (k : Nat), k + m = n.entries.length ∧ v6 = .int .i64 (k : Int) ∧ Hid (k ≤ entAt key n.entries) ∧ Hid (Ext w wr ∧ Blk wr w.heap.size #[.bool true, .slice ea n.entries.length ec, .slice ka n.keys.length kc, vi] 57))
    case atStart => exact ⟨0, by omega, rfl, Lib.hid (Nat.zero_le _), HW⟩
    case round =>
      obtain ⟨k, hkm, rfl, HS, HW⟩ := hrel
      have b1 := HW.out.2.cell (o := 1) (v := .slice ea n.entries.length ec) rfl
      have b2 := HW.out.2.cell (o := 2) (v := .slice ka n.keys.length kc) rfl
      by_cases hlt : k < n.entries.length
      · obtain ⟨b, off, rfl, hb, hF, hc⟩ := Sl.at HE.out HW.out.1 (fun _ _ f => f.elim) k hlt
        obtain ⟨x, hx⟩ : ∃ x, n.entries[k]? = some x := ⟨_, List.getElem?_eq_getElem hlt⟩
        have hx' : n.entries[k] = x := by rw [List.getElem?_eq_getElem hlt] at hx; exact Option.some.inj hx
        rw [hx'] at hc
        have c0 : wr.cell? ⟨b, off + k * 4, none⟩ = some (.string x.key) := hc 0 _ rfl
        have HX := Lib.hid hx
        clear hc hx hx'
        have i1 : (0 : Int) ≤ (k : Int) := by omega
        have i2 : (k : Int) < (n.entries.length : Int) := by omega
        cases hlk : ltS x.key key with
        | true =>
          have t1 : Op.bytesLess x.key.toList key.toList = true := hlk
          have HS2 : Hid (k + 1 ≤ entAt key n.entries) := Lib.hid (findIdx_on (f := fun e : EntryA => !ltS e.key key) HS.out HX.out (by simp [hlk]))
          clear hlk
          go_wp2_with fail
          go_roundg (gk - 1)
          case measure => omega
          case rel => exact ⟨k + 1, by omega, by go_num, HS2, HW⟩
        | false =>
          have t1 : Op.bytesLess x.key.toList key.toList = false := hlk
          have HAT : Hid (entAt key n.entries = k) := Lib.hid (findIdx_is (f := fun e : EntryA => !ltS e.key key) HS.out HX.out (by simp [hlk]))
          clear hlk
          have d1 : decide ((k : Int) < (n.entries.length : Int)) = true := decide_eq_true i2
          by_cases hk : x.key = key
          · have HIS : Hid (entIs key n.entries = true) := Lib.hid (by unfold entIs; rw [HAT.out, HX.out]; exact decide_eq_true hk)
            obtain ⟨xk, xv, xc, xs⟩ := x
            simp only at hk c0 t1
            subst hk
            go_wp2_with fail
            go_quiet (fail)
            go_wp2_with fail
            go_ret2
            exact ⟨by rw [HF.out, HAT.out, HIS.out]; first | done | rfl, HW.out.1.drewN _⟩
          · have HIS : Hid (entIs key n.entries = false) := Lib.hid (by unfold entIs; rw [HAT.out, HX.out]; exact decide_eq_false hk)
            have e3 : (x.key.toList == key.toList) = false := beq_eq_false_iff_ne.2 (fun e => hk (toList_inj e))
            go_wp2_with fail
            go_quiet (fail)
            go_wp2_with fail
            go_ret2
            exact ⟨by rw [HF.out, HAT.out, HIS.out]; first | done | rfl, HW.out.1.drewN _⟩
      · have hkn : k = n.entries.length := by omega
        have HAT : Hid (entAt key n.entries = k) := Lib.hid (by have := HS.out; have h9 : entAt key n.entries ≤ n.entries.length := List.findIdx_le_length; omega)
        have HIS : Hid (entIs key n.entries = false) := Lib.hid (by unfold entIs; rw [HAT.out, hkn, List.getElem?_eq_none (Nat.le_refl _)])
        have d1 : decide ((k : Int) < (n.entries.length : Int)) = false := decide_eq_false (by omega)
        clear hkn
        go_wp2_with fail
        go_quiet (fail)
        go_wp2_with fail
        go_ret2
        exact ⟨by rw [HF.out, HAT.out, HIS.out]; first | done | rfl, HW.out.1.drewN _⟩
  | false =>
    have HF : Hid (findN n key = (kidAt key n.keys, false)) := Lib.hid (findN_inner hl key)
    rw [hl] at b0 HB HM b1 b2
    have HW : Hid (Ext w (w.alloc (.cells #[.bool false, .slice ea n.entries.length ec, .slice ka n.keys.length kc, vi] 57)) ∧ Blk (w.alloc (.cells #[.bool false, .slice ea n.entries.length ec, .slice ka n.keys.length kc, vi] 57)) w.heap.size #[.bool false, .slice ea n.entries.length ec, .slice ka n.keys.length kc, vi] 57) := Lib.hid ⟨HM.out, HB.out⟩
    clear hl HM HB
    go_enter Tryz.func19, Tryz.ntmps19
    go_wp2_with fail
    go_loopg [6] n.keys.length (fun m v6 wr => ∃ (k : Nat), k + m = n.keys.length ∧ v6 = .int .i64 (k : Int) ∧ Hid (k ≤ kidAt key n.keys) ∧ Hid (Ext w wr ∧ Blk wr w.heap.size #[.bool false, .slice ea n.entries.length ec, .slice ka n.keys.length kc, vi] 57))
    case atStart => exact ⟨0, by omega, rfl, Lib.hid (Nat.zero_le _), HW⟩
    case round =>
      obtain ⟨k, hkm, rfl, HS, HW⟩ := hrel
      have b1 := HW.out.2.cell (o := 1) (v := .slice ea n.entries.length ec) rfl
      have b2 := HW.out.2.cell (o := 2) (v := .slice ka n.keys.length kc) rfl
      by_cases hlt : k < n.keys.length
      · obtain ⟨b, off, rfl, hb, hF, hc⟩ := Sl.at HK.out HW.out.1 (fun _ _ f => f.elim) k hlt
        obtain ⟨x, hx⟩ : ∃ x, n.keys[k]? = some x := ⟨_, List.getElem?_eq_getElem hlt⟩
        have hx' : n.keys[k] = x := by rw [List.getElem?_eq_getElem hlt] at hx; exact Option.some.inj hx
        rw [hx'] at hc
        have c0 : wr.cell? ⟨b, off + k, none⟩ = some (.string x) := by have := hc 0 _ rfl; simpa using this
        have HX := Lib.hid hx
        clear hc hx hx'
        have i1 : (0 : Int) ≤ (k : Int) := by omega
        have i2 : (k : Int) < (n.keys.length : Int) := by omega
        cases hlk : ltS key x with
        | false =>
          have t1 : Op.bytesLess key.toList x.toList = false := hlk
          have HS2 : Hid (k + 1 ≤ kidAt key n.keys) := Lib.hid (findIdx_on (f := fun s : ByteArray => ltS key s) HS.out HX.out hlk)
          have t3 : leS x key = true := (leS_iff x key).2 ((not_ltS hlk).imp id Eq.symm)
          have t2 : (Op.bytesLess x.toList key.toList || x.toList == key.toList) = true := t3
          clear hlk t3
          go_wp2_with fail
          go_roundg (gk - 1)
          case measure => omega
          case rel => exact ⟨k + 1, by omega, by go_num, HS2, HW⟩
        | true =>
          have t1 : Op.bytesLess key.toList x.toList = true := hlk
          have HAT : Hid (kidAt key n.keys = k) := Lib.hid (findIdx_is (f := fun s : ByteArray => ltS key s) HS.out HX.out hlk)
          have t3 : leS x key = false := by
            cases h : leS x key with
            | false => rfl
            | true => rcases (leS_iff x key).1 h with q | q
                      · rw [ltS_asymm q] at hlk; cases hlk
                      · rw [q, ltS_irrefl] at hlk; cases hlk
          have t2 : (Op.bytesLess x.toList key.toList || x.toList == key.toList) = false := t3
          clear hlk t3
          go_wp2_with fail
          go_ret2
          exact ⟨by rw [HF.out, HAT.out]; first | done | rfl, HW.out.1⟩
      · have HAT : Hid (kidAt key n.keys = k) := Lib.hid (by have := HS.out; have h9 : kidAt key n.keys ≤ n.keys.length := List.findIdx_le_length; omega)
        go_wp2_with fail
        go_ret2
        exact ⟨by rw [HF.out, HAT.out]; first | done | rfl, HW.out.1⟩
end
end Go.Proofs.YtmgfneijcfjlfaaGreatDoor
