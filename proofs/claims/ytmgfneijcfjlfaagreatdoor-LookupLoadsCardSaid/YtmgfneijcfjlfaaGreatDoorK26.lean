/- ref07.num, text, Bytes; ref07.Key. | What a reader of a node takes: how far it gets, how many entries; the bytes of what it took. Plain. | (*node.reader).text. | node.Get: what stands while it reads. -/
import Derived.Test.YtmgfneijcfjlfaaGreatDoorK22
import Derived.Test.YtmgfneijcfjlfaaGreatDoorK25
import Derived.Test.YtmgfneijcfjlfaaGreatDoorK06
import Derived.Deep.RegionHeld3
import Derived.Test.YtmgfneijcfjlfaaGreatDoorK21
import Derived.Test.YtmgfneijcfjlfaaGreatDoorK19
import Derived.BigQuiet
namespace Go.Proofs.YtmgfneijcfjlfaaGreatDoor
open Go.RowKit
attribute [local go_sem ↓] Go.wp_at_zero Go.wp_at_succ
theorem key07_any (s : ByteArray) (w : World) : Calls Tryz.prog 12 #[.string s] w fun e w' => e = .returned (.bool (keyB s)) ∧ w = w' := by
  obtain ⟨n, hn⟩ : ∃ n, n = s.size := ⟨_, rfl⟩
  have HN : Hid (keyB s = (decide (1 ≤ (n : Int)) && decide ((n : Int) ≤ 32))) := Lib.hid (by rw [hn]; rfl)
  rw [hn] at HN
  clear hn
  by_cases h1 : 0 < (s.size : Int)
  all_goals
    have h2 := Lib.hid h1
    go_enter Tryz.func12, Tryz.ntmps12
    go_wp2
    go_ret
    exact ⟨ret_bool (by have := h2.out; rw [HN.out]; first | (rw [decide_eq_true (show 1 ≤ (s.size : Int) by omega)]; simp; done) | (rw [decide_eq_false (show ¬ 1 ≤ (s.size : Int) by omega)]; simp; done)), rfl⟩
section
variable {F : Nat → Prop} {w w' : World}
set_option maxRecDepth 100000 in
theorem num07_any (bv : Value) (l : List UInt8) (hb : Sl F w 1 encB bv l) (n W : Nat) (hw : W = 1 ∨ W = 2 ∨ W = 4) (hn : n < 256 ^ W) (hlen : l.length ≤ 100000) :
    Calls Tryz.prog 89 #[bv, .int .i64 (n : Int), .int .i64 (W : Int)] w fun e w' => ∃ a c, e = .returned (.slice a (l.length + W) c) ∧ Own (fun _ => False) w' w.heap.size 5 1 encB (.slice a (l.length + W) c) (l ++ leB W n) ∧ Ext w w' := by
  have hn2 : n < 4294967296 := by
    rcases hw with rfl | rfl | rfl <;> simp at hn <;> omega
  have HB := Lib.hid hb
  have HN := Lib.hid hn
  have HW := Lib.hid hw
  clear hb hn hw
  go_enter Tryz.func89, Tryz.ntmps89
  go_wp2_with fail
  refine (Put03_any bv l HB.out n W (by have := HW.out; omega) HN.out (by omega) hlen).mono ?_
  rintro e w1 ⟨a, c, rfl, hO, hm⟩
  have HO := Lib.hid hO
  have HM := Lib.hid hm
  clear hO hm
  go_wp2_with fail
  go_ret
  exact ⟨a, c, rfl, HO.out, HM.out⟩
theorem num07_01 (bv : Value) (l : List UInt8) (hb : Sl F w 1 encB bv l) (hlen : l.length ≤ 100000) :
    Calls Tryz.prog 89 #[bv, .int .i64 0, .int .i64 1] w fun e w' => ∃ v, e = .returned v ∧ Own (fun _ => False) w' w.heap.size 5 1 encB v (l ++ leB 1 0) ∧ Ext w w' :=
  (num07_any bv l hb 0 1 (.inl rfl) (by decide) hlen).mono fun _ _ ⟨_, _, h1, h2, h3⟩ => ⟨_, h1, h2, h3⟩
theorem num07_11 (bv : Value) (l : List UInt8) (hb : Sl F w 1 encB bv l) (hlen : l.length ≤ 100000) :
    Calls Tryz.prog 89 #[bv, .int .i64 1, .int .i64 1] w fun e w' => ∃ v, e = .returned v ∧ Own (fun _ => False) w' w.heap.size 5 1 encB v (l ++ leB 1 1) ∧ Ext w w' :=
  (num07_any bv l hb 1 1 (.inl rfl) (by decide) hlen).mono fun _ _ ⟨_, _, h1, h2, h3⟩ => ⟨_, h1, h2, h3⟩
theorem num07_4 (bv : Value) (l : List UInt8) (hb : Sl F w 1 encB bv l) (n : Nat) (hn : n < 4294967296) (hlen : l.length ≤ 100000) :
    Calls Tryz.prog 89 #[bv, .int .i64 (n : Int), .int .i64 4] w fun e w' => ∃ v, e = .returned v ∧ Own (fun _ => False) w' w.heap.size 5 1 encB v (l ++ leB 4 n) ∧ Ext w w' :=
  (num07_any bv l hb n 4 (.inr (.inr rfl)) (by simpa using hn) hlen).mono fun _ _ ⟨_, _, h1, h2, h3⟩ => ⟨_, h1, h2, h3⟩
theorem num07_2 (bv : Value) (l : List UInt8) (hb : Sl F w 1 encB bv l) (n : Nat) (hn : n < 65536) (hlen : l.length ≤ 100000) :
    Calls Tryz.prog 89 #[bv, .int .i64 (n : Int), .int .i64 2] w fun e w' => ∃ v, e = .returned v ∧ Own (fun _ => False) w' w.heap.size 5 1 encB v (l ++ leB 2 n) ∧ Ext w w' :=
  (num07_any bv l hb n 2 (.inr (.inl rfl)) (by simpa using hn) hlen).mono fun _ _ ⟨_, _, h1, h2, h3⟩ => ⟨_, h1, h2, h3⟩
set_option maxRecDepth 100000 in
theorem text07_any (bv : Value) (l : List UInt8) (hb : Sl F w 1 encB bv l) (s : ByteArray) (hs : s.size < 256) (hlen : l.length ≤ 100000) :
    Calls Tryz.prog 90 #[bv, .string s] w fun e w' => ∃ a c, e = .returned (.slice a (l.length + (bytesT s).length) c) ∧ Own (fun _ => False) w' w.heap.size 5 1 encB (.slice a (l.length + (bytesT s).length) c) (l ++ bytesT s) ∧ Ext w w' := by
  have HB := Lib.hid hb
  have HTL : Hid ((bytesT s).length = 1 + s.size) := Lib.hid (by unfold bytesT; rw [List.length_append, leB_length, size_toList])
  clear hb
  go_enter Tryz.func90, Tryz.ntmps90
  go_wp2_with fail
  refine (num07_any bv l HB.out s.size 1 (.inl rfl) (by simpa using hs) hlen).mono ?_
  rintro e w1 ⟨a, c, rfl, hO, hm⟩
  obtain ⟨cap3, w3, hconv, hm3, hsl⟩ := conv_bytes (P := Tryz.prog) Tryz.underlying9 Tryz.underlying73 Tryz.underlying5 w1 s s.size rfl (by omega)
  have HO := Lib.hid (hO.ext hm3)
  have HM3 := Lib.hid (hm.trans hm3)
  have HSL := Lib.hid hsl
  have HZ := Lib.hid (hm.trans hm3).size
  have hll : (l ++ leB 1 s.size).length = l.length + 1 := by rw [List.length_append, leB_length]
  have HLL := Lib.hid hll
  clear hO hm hm3 hsl hll
  go_wp2_with (at_builtin; refine wpl_app2 Tryz.elB encB_ok rfl _ _ rfl w.heap.size (.slice a (l.length + 1) c) _ (l ++ leB 1 s.size) s.data.toList rfl rfl HO.out HSL.out (by rw [HLL.out, size_toList]; omega) HZ.out (fun f => f) ?_; intro a' c' w4 hown4 hmod hat)
  have HO4 := Lib.hid hown4
  have HM4 : Hid (Ext w w4) := Lib.hid (HM3.out.trans' hmod (fun i hi h => by have := (HO.out.lt i h).1; omega))
  clear hown4 hmod hat
  go_wp2_with fail
  go_ret
  have e : (l ++ leB 1 s.size).length + s.data.toList.length = l.length + (bytesT s).length := by rw [HLL.out, size_toList, HTL.out]; omega
  have h := HO4.out
  rw [e] at h
  refine ⟨a', c', ?_, ?_, HM4.out⟩
  · show Ending.returned (.slice a' (l.length + 1 + s.size) c') = _
    rw [show l.length + 1 + s.size = l.length + (bytesT s).length by rw [HTL.out]; omega]
  · unfold bytesT at h ⊢
    rw [← List.append_assoc]
    exact h
theorem text07v (bv : Value) (l : List UInt8) (hb : Sl F w 1 encB bv l) (s : ByteArray) (hs : s.size < 256) (hlen : l.length ≤ 100000) :
    Calls Tryz.prog 90 #[bv, .string s] w fun e w' => ∃ v, e = .returned v ∧ Own (fun _ => False) w' w.heap.size 5 1 encB v (l ++ bytesT s) ∧ Ext w w' :=
  (text07_any bv l hb s hs hlen).mono fun _ _ ⟨_, _, h1, h2, h3⟩ => ⟨_, h1, h2, h3⟩
end
end Go.Proofs.YtmgfneijcfjlfaaGreatDoor
namespace Go.Proofs.YtmgfneijcfjlfaaGreatDoor
theorem rdText_bd (b : List UInt8) (r : RdA) : r.at_ + 1 ≤ (rdText b r).2.at_ ∧ ((rdText b r).2.at_ ≤ r.at_ + 1 ∨ (rdText b r).2.at_ ≤ b.length) := by
  unfold rdText
  simp only
  have h : (rdNum b r 1).2.at_ = r.at_ + 1 := rfl
  split
  · rw [← h]; exact ⟨Int.le_refl _, .inl (Int.le_refl _)⟩
  · rename_i hc
    simp only [not_or, Int.not_lt] at hc
    simp only
    rw [h] at hc ⊢
    exact ⟨by omega, .inr (by omega)⟩
theorem rdNum_ok {b : List UInt8} {r : RdA} {W : Nat} (h : (rdNum b r W).2.bad = false) : r.bad = false ∧ r.at_ + W ≤ b.length := by
  unfold rdNum at h
  simp only [Bool.or_eq_false_iff] at h
  refine ⟨h.1, ?_⟩
  have h2 := h.2
  unfold takeF at h2
  split at h2
  · simp at h2
  · split at h2
    · simp at h2
    · rename_i h4
      omega
theorem rdText_ok {b : List UInt8} {r : RdA} (h : (rdText b r).2.bad = false) : r.bad = false ∧ (rdText b r).2.at_ ≤ b.length := by
  unfold rdText at h ⊢
  simp only at h ⊢
  split
  · rename_i hc
    rw [if_pos hc] at h
    cases h
  · rename_i hc
    simp only [not_or, Int.not_lt, Bool.not_eq_true] at hc
    exact ⟨(rdNum_ok hc.1).1, by simp only; omega⟩
theorem rdNum_bd (b : List UInt8) (r : RdA) (W : Nat) : (rdNum b r W).2.at_ = r.at_ + W := rfl
theorem rdEntry_bd (b : List UInt8) (r : RdA) : r.at_ + 1 ≤ (rdEntry b r).2.at_ ∧ ((rdEntry b r).2.at_ ≤ r.at_ + 10 ∨ (rdEntry b r).2.at_ ≤ b.length + 10) := by
  have h1 := rdText_bd b r
  unfold rdEntry
  simp only
  split
  · have h2 := rdText_bd b (rdNum b (rdText b r).2 1).2
    have h3 := rdNum_bd b (rdText b r).2 1
    simp only
    rw [h3] at h2
    omega
  · have h3 := rdNum_bd b (rdText b r).2 1
    have h4 := rdNum_bd b (rdNum b (rdText b r).2 1).2 4
    have h5 := rdNum_bd b (rdNum b (rdNum b (rdText b r).2 1).2 4).2 4
    simp only
    rw [h5, h4, h3]
    omega
theorem rdEntry_ok {b : List UInt8} {r : RdA} (h : (rdEntry b r).2.bad = false) : (rdEntry b r).2.at_ ≤ b.length := by
  unfold rdEntry at h ⊢
  simp only at h ⊢
  split
  · rename_i hc
    rw [if_pos hc] at h
    exact (rdText_ok h).2
  · rename_i hc
    rw [if_neg hc] at h
    exact (rdNum_ok h).2
theorem rdEntries_few (b : List UInt8) : ∀ (k : Nat) (r : RdA) (l : List EntryA), (rdEntries b k r l).1.length ≤ l.length + (if r.bad then 0 else (b.length - r.at_).toNat + 1)
  | 0, r, l => by simp only [rdEntries]; omega
  | k + 1, r, l => by
    rw [rdEntries]
    cases hb : r.bad with
    | true => simp
    | false =>
      simp only [Bool.false_eq_true, if_false]
      have h1 := rdEntries_few b k (rdEntry b r).2 (l ++ [(rdEntry b r).1])
      have h2 := rdEntry_bd b r
      simp only [List.length_append, List.length_cons, List.length_nil] at h1
      cases hc : (rdEntry b r).2.bad with
      | true => rw [hc] at h1; simp at h1; omega
      | false =>
        have h3 := rdEntry_ok hc
        rw [hc] at h1
        simp only [Bool.false_eq_true, if_false] at h1
        omega
theorem rdEntries_le (b : List UInt8) : ∀ (k : Nat) (r : RdA) (l : List EntryA), (rdEntries b k r l).1.length ≤ l.length + k
  | 0, r, l => by simp [rdEntries]
  | k + 1, r, l => by
    rw [rdEntries]
    split
    · simp
    · have := rdEntries_le b k (rdEntry b r).2 (l ++ [(rdEntry b r).1])
      simp only [List.length_append, List.length_cons, List.length_nil] at this
      omega
theorem rdKeys_le (b : List UInt8) : ∀ (k : Nat) (r : RdA) (l : List ByteArray) (m : List Int), (rdKeys b k r l m).1.length ≤ l.length + k ∧ (rdKeys b k r l m).2.1.length ≤ m.length + k
  | 0, r, l, m => by simp [rdKeys]
  | k + 1, r, l, m => by
    rw [rdKeys]
    split
    · simp
    · simp only
      have := rdKeys_le b k (rdNum b (rdText b r).2 4).2 (l ++ [(rdText b r).1]) (m ++ [((rdNum b (rdText b r).2 4).1 : Int)])
      simp only [List.length_append, List.length_cons, List.length_nil] at this
      omega
theorem rdNum_few (b : List UInt8) (r : RdA) : (rdNum b r 2).1 ≤ 65535 := by
  unfold rdNum takeF
  simp only
  split
  · simp
  · split
    · simp
    · have h1 := ofLe_lt ((b.drop r.at_.toNat).take 2)
      have h2 : ((b.drop r.at_.toNat).take 2).length ≤ 2 := List.length_take_le _ _
      have h3 : (256 : Nat) ^ ((b.drop r.at_.toNat).take 2).length ≤ 256 ^ 2 := Nat.pow_le_pow_right (by omega) h2
      simp only
      omega
theorem rdNode_leaf (lf : Bool) (b : List UInt8) : (rdNode lf b).1.leaf = lf := by
  unfold rdNode
  cases lf <;> simp
/-- what was taken of few bytes has few. -/
theorem rdNode_small (lf : Bool) (b : List UInt8) (hb : b.length ≤ 1000) (hr : rightN (rdNode lf b).1 = true) : (bytesN (rdNode lf b).1).length ≤ 100000 := by
  have hl := rdNode_leaf lf b
  cases lf with
  | true =>
    have hn : (rdNode true b).1.entries.length ≤ 1001 := by
      unfold rdNode
      simp only [if_true]
      have := rdEntries_few b (rdNum b ⟨0, false⟩ 2).1 (rdNum b ⟨0, false⟩ 2).2 []
      have h2 : (rdNum b ⟨0, false⟩ 2).2.at_ = 2 := rdNum_bd b ⟨0, false⟩ 2
      simp only [List.length_nil] at this
      split at this <;> omega
    have hall : ∀ x ∈ (rdNode true b).1.entries, (bytesE x).length ≤ 59 := fun x hx => by
      obtain ⟨i, hi, e⟩ := List.getElem_of_mem hx
      exact bytesE_len (right_entry hl hr (k := i) (by rw [← e]; exact List.getElem?_eq_getElem hi))
    have := flat_len bytesE 59 _ hall
    unfold bytesN
    rw [if_pos hl, List.length_append, leB_length]
    omega
  | false =>
    obtain ⟨g1, g2, g3⟩ := right_256 hl hr
    have hall : ∀ x ∈ (rdNode false b).1.keys.zip (rdNode false b).1.kids.tail, (bytesK x).length ≤ 37 := fun x hx => by
      obtain ⟨s, c⟩ := x
      have h1 := (List.of_mem_zip hx).1
      rw [right_inner hl, innerB_eq] at hr
      simp only [Bool.and_eq_true, List.all_eq_true] at hr
      exact bytesK_len (hr.1.2 s h1)
    have := flat_len bytesK 37 _ hall
    have hz : ((rdNode false b).1.keys.zip (rdNode false b).1.kids.tail).length ≤ 255 := by
      rw [List.length_zip, List.length_tail]; omega
    unfold bytesN
    rw [if_neg (by rw [hl]; simp), List.length_append, List.length_append, leB_length, leB_length]
    omega
end Go.Proofs.YtmgfneijcfjlfaaGreatDoor
namespace Go.Proofs.YtmgfneijcfjlfaaGreatDoor
open Go.RowKit
section
variable {F : Nat → Prop} {ad : Nat → Addr} {w w' : World} {B : Nat} {bv : Value} {b : List UInt8} {r : RdA}
theorem rdNum_fact (b : List UInt8) (r : RdA) (W : Nat) (hW : W = 1 ∨ W = 2 ∨ W = 4) : (rdNum b r W).1 < 4294967296 ∧ (rdNum b r W).2.at_ = r.at_ + W := ⟨takeF_small b r.at_ W hW, rfl⟩
theorem rdNum_to (hL : Env F ad w) (h : RdR F w B bv b r) (W : Nat) (hW : W = 1 ∨ W = 2 ∨ W = 4) (h0 : 0 ≤ r.at_) (h1 : r.at_ ≤ 1000000000000) (n : Nat) (r' : RdA) (hx : rdNum b r W = (n, r')) :
    Calls Tryz.prog 108 #[.pointer (some ⟨B, 0, none⟩), .int .i64 (W : Int)] w fun e w' => e = .returned (.int .i64 (n : Int)) ∧ RdR F w' B bv b r' ∧ Mods (fun k => k = B) w w' := by
  have := rdNum_any hL h W hW h0 h1
  rw [hx] at this
  exact this
set_option maxRecDepth 100000 in
theorem rdText_any (hL : Env F ad w) (h : RdR F w B bv b r) (h0 : 0 ≤ r.at_) (h1 : r.at_ ≤ 1000000000000) :
    Calls Tryz.prog 109 #[.pointer (some ⟨B, 0, none⟩)] w fun e w' => e = .returned (.string (rdText b r).1) ∧ RdR F w' B bv b (rdText b r).2 ∧ Mods (fun k => k = B) w w' := by
  have HH := Lib.hid h
  have HL := Lib.hid hL
  obtain ⟨hf1, hf2⟩ := rdNum_fact b r 1 (.inl rfl)
  obtain ⟨n, ⟨t, bd⟩, hx⟩ : ∃ n r1, rdNum b r 1 = (n, r1) := ⟨_, _, rfl⟩
  rw [hx] at hf1 hf2
  simp only at hf1 hf2
  obtain ⟨t, rfl⟩ : ∃ k : Nat, t = k := ⟨t.toNat, by omega⟩
  have ht : (t : Int) ≤ 1000000000001 := by omega
  have HX := Lib.hid hx
  have H01 := Lib.hid (And.intro h0 h1)
  obtain ⟨sa, cap, rfl, hz, hz2, hz3, hz4⟩ := _root_.id h.sl
  unfold maxLen at hz2
  have HT : Hid (rdText b r = if bd = true ∨ (b.length : Int) - t < (n : Int) then (⟨#[]⟩, ⟨t, true⟩) else (⟨((b.drop t).take n).toArray⟩, ⟨t + n, false⟩)) := Lib.hid (by
    unfold rdText; simp only [hx, Int.toNat_natCast])
  have ht1 : 1 ≤ t := by omega
  clear h hL hx hf2 h0 h1
  by_cases hc : bd = true ∨ (b.length : Int) - t < (n : Int)
  · rw [if_pos hc] at HT
    have HC := Lib.hid hc
    clear hc hz4
    go_enter Tryz.func109, Tryz.ntmps109
    go_wp2_with fail
    refine (rdNum_to HL.out HH.out 1 (.inl rfl) H01.out.1 H01.out.2 _ _ HX.out).mono ?_
    rintro e w1 ⟨rfl, hR, hm⟩
    have HR := Lib.hid hR
    have HM := Lib.hid hm
    have c0 := hR.own.cell (o := 0) (v := .slice sa b.length cap) rfl
    have c1 := hR.own.cell (o := 1) (v := .int .i64 (t : Int)) rfl
    have c2 := hR.own.cell (o := 2) (v := .bool bd) rfl
    have f2 := hR.own.frozen 2
    clear hR hm
    have HM1 : Hid (∀ q, Mods (fun k => k = B) w1 ((w1.drewN q).setCell ⟨B, 2, none⟩ (.bool true))) := Lib.hid fun q => ((Mods.refl _ w1).drewN q).trans (Mods.at (fun k => k = B) (w1.drewN q) B 2 _ rfl)
    have HB : Hid (∀ q, Blk (w1.drewN q) B #[.slice sa b.length cap, .int .i64 (t : Int), .bool bd] 205) := Lib.hid fun _ => HR.out.own
    cases bd
    · have hlt : (b.length : Int) - t < (n : Int) := by have := HC.out; simpa using this
      have hd : decide ((b.length : Int) - t < (n : Int)) = true := decide_eq_true hlt
      go_wp2_with fail
      go_quiet (fail)
      go_wp2_with fail
      go_ret
      exact ⟨by rw [HT.out]; rfl, by rw [HT.out]; exact HR.out.turn ⟨t, true⟩ (HM1.out _) ((HB.out _).set 2 _), HM.out.trans (HM1.out _)⟩
    · go_wp2_with fail
      go_quiet (fail)
      go_wp2_with fail
      go_ret
      exact ⟨by rw [HT.out]; rfl, by rw [HT.out]; exact HR.out.turn ⟨t, true⟩ (HM1.out _) ((HB.out _).set 2 _), HM.out.trans (HM1.out _)⟩
  · rw [if_neg hc] at HT
    have hbd : bd = false := by cases bd <;> simp_all
    subst hbd
    have hlt : ¬ (b.length : Int) - t < (n : Int) := fun h => hc (.inr h)
    clear hc
    have hle : t + n ≤ b.length := by omega
    obtain ⟨bb, off, rfl⟩ : ∃ bb off, sa = some ⟨bb, off, none⟩ := by
      rcases hz4 with h | ⟨bb, off, h, _⟩
      · rw [h] at hle; simp at hle; omega
      · exact ⟨bb, off, h⟩
    clear hz4
    go_enter Tryz.func109, Tryz.ntmps109
    go_wp2_with fail
    refine (rdNum_to HL.out HH.out 1 (.inl rfl) H01.out.1 H01.out.2 _ _ HX.out).mono ?_
    rintro e w1 ⟨rfl, hR, hm⟩
    have HR := Lib.hid hR
    have HM := Lib.hid hm
    have c0 := hR.own.cell (o := 0) (v := .slice (some ⟨bb, off, none⟩) b.length cap) rfl
    have c1 := hR.own.cell (o := 1) (v := .int .i64 (t : Int)) rfl
    have c2 := hR.own.cell (o := 2) (v := .bool false) rfl
    have f1 := hR.own.frozen 1
    have hd : decide ((b.length : Int) - t < (n : Int)) = false := decide_eq_false (by omega)
    have hw1 : IntKind.i64.wrap (t : Int) = (t : Int) := IntWalk.i64_in _ (by omega)
    have hi0 : (0 : Int) ≤ (t : Int) := by omega
    have hi1 : (t : Int) ≤ (t : Int) + (n : Int) := by omega
    have hi2 : (t : Int) + (n : Int) ≤ (cap : Int) := by omega
    have hi3 : (0 : Int) ≤ (t : Int) + (n : Int) := by omega
    have hs1 : ((t : Int) + (n : Int)).toNat - t = n := by omega
    have hsl : Sl F w1 1 encB (.slice (if cap = t then some ⟨bb, off, none⟩ else some ⟨bb, off + t, none⟩) n (cap - t)) ((b.drop t).take n) := by
      have hln : ((b.drop t).take n).length = n := by simp; omega
      split
      · have hn0 : n = 0 := by omega
        subst hn0
        exact ⟨some ⟨bb, off, none⟩, cap - t, by simp, by simp, by unfold maxLen; omega, by simp, .inl (by simp)⟩
      · have := Sl.sub hR.sl t (t + n) (by omega) hle
        rw [Nat.mul_one, show t + n - t = n by omega] at this
        exact this
    have hcv : ∀ q q' : Nat, (convert 73 9 (.slice (if cap = t then some ⟨bb, off, none⟩ else some ⟨bb, off + t, none⟩) n (cap - t))).run Tryz.prog (((w1.drewN q).setCell ⟨B, 1, none⟩ (.int .i64 ((t : Int) + (n : Int)))).drewN q') = .ok (.string ⟨((b.drop t).take n).toArray⟩) (((w1.drewN q).setCell ⟨B, 1, none⟩ (.int .i64 ((t : Int) + (n : Int)))).drewN q') := fun q q' =>
      run_conv_sl (P := Tryz.prog) Tryz.underlying73 Tryz.underlying5 Tryz.underlying9 (hsl.mods ((((Mods.refl F w1).drewN q).trans (Mods.at F (w1.drewN q) B 1 _ hR.mem)).drewN q'))
    have HCV := Lib.hid hsl
    have HM1 : Hid (∀ q q', Mods (fun k => k = B) w1 (((w1.drewN q).setCell ⟨B, 1, none⟩ (.int .i64 ((t : Int) + (n : Int)))).drewN q')) := Lib.hid fun q q' => (((Mods.refl _ w1).drewN q).trans (Mods.at (fun k => k = B) (w1.drewN q) B 1 _ rfl)).drewN q'
    have HB : Hid (∀ q q', Blk (((w1.drewN q).setCell ⟨B, 1, none⟩ (.int .i64 ((t : Int) + (n : Int)))).drewN q') B #[.slice (some ⟨bb, off, none⟩) b.length cap, .int .i64 ((t : Int) + (n : Int)), .bool false] 205) := Lib.hid fun q _ => Blk.set (w := w1.drewN q) HR.out.own 1 _
    clear hR hm hsl
    go_wp2_with fail
    go_quiet (fail)
    go_wp2_with fail
    go_quiet (fail)
    all_goals go_wp2_with fail
    all_goals
      go_ret
      try (have e : cap = t := by assumption
           subst e)
      exact ⟨by rw [HT.out]; rfl, by rw [HT.out]; exact HR.out.turn _ (HM1.out _ _) (HB.out _ _), HM.out.trans (HM1.out _ _)⟩
end
end Go.Proofs.YtmgfneijcfjlfaaGreatDoor
namespace Go.Proofs.YtmgfneijcfjlfaaGreatDoor
open Go.RowKit
theorem Tryz.mkE : (Tryz.prog.info? 107).map (fun i => (i.zero, i.size, i.bytes)) = some (some (.agg #[.string ⟨#[]⟩, .string ⟨#[]⟩, .int .i64 0, .int .i64 0]), 4, 48) := by kernel_rfl
theorem Tryz.mkS : (Tryz.prog.info? 9).map (fun i => (i.zero, i.size, i.bytes)) = some (some (.string ⟨#[]⟩), 1, 16) := by kernel_rfl
theorem Tryz.elE : ElT Tryz.prog 53 107 (.agg #[.string ⟨#[]⟩, .string ⟨#[]⟩, .int .i64 0, .int .i64 0]) 4 48 := ⟨Tryz.underlying53, Tryz.mkE, rfl, by decide, by decide⟩
theorem Tryz.elS : ElT Tryz.prog 54 9 (.string ⟨#[]⟩) 1 16 := ⟨Tryz.underlying54, Tryz.mkS, rfl, by decide, by decide⟩
theorem encE_ok : EncOk encE 4 := ⟨fun _ => rfl, by intro x u hu; simp [encE] at hu; rcases hu with rfl | rfl | rfl | rfl <;> rfl⟩
theorem encS_ok : EncOk encS 1 := ⟨fun _ => rfl, by intro x u hu; simp [encS] at hu; subst hu; rfl⟩
/-- .. as a step of a region that draws. -/
theorem step_app2 {P : Program} {α : Type} {F G : Nat → Prop} {w : World} {t e : TypeId} {z : Value} {sz bytes : Nat} {enc : α → List Value} (T : ElT P t e z sz bytes) (E : EncOk enc sz)
    {ops : Array Oper} {o : Oper} {a : Act} {K : Act → World → Prop} {Q : Exit → Act → World → Prop} {X : Prop} (hgd : o.guard = none) (sx x : Operand)
    (ho : o.op = .call { callee := .builtin .append, args := #[sx, x], argTypes := #[t, t] })
    (base : Nat) (v s : Value) (l m : List α) (hv : a.eval sx = v) (hx : a.eval x = s) (hown : Own F w base e sz enc v l) (hs : Sl G w sz enc s m) (hb : (l.length + m.length) * bytes ≤ 140737488355328) (hbase : base ≤ w.heap.size) (hn : ¬ F w.heap.size)
    (h : ∀ a' c' w', Own F w' base e sz enc (.slice a' (l.length + m.length) c') (l ++ m) → Mods (fun k => v.ownBlock = some k) w w' →
      ((Value.slice a' (l.length + m.length) c').ownBlock = v.ownBlock ∨ (Value.slice a' (l.length + m.length) c').ownBlock = some w.heap.size) → K (a.put o.dst (.slice a' (l.length + m.length) c')) w') :
    if Region.wanted o (yielded ops a.tmps) = true then Oper.wp P o a w K Q else X := by
  have hw : Region.wanted o (yielded ops a.tmps) = true := by simp [Region.wanted, hgd]
  rw [if_pos hw]
  obtain ⟨i, hi, hz, hs1, hb1⟩ := info3 T.info
  obtain ⟨a', c', w', hr, h2, h3, h4⟩ := run_append_sl (P := P) (F := F) (G := G) (w := w) base t o.type e i z sz bytes T.under hi hz hs1 hb1 T.zs T.sz0 enc E.len E.one v s l m hown hs hb T.by0 hbase hn
  unfold Oper.wp execOp
  simp only [ho, resolve, invoke, builtin, Sem.run_bind, Sem.run_pure, Result.andThen_ok, List.map_toArray, List.map_cons, List.map_nil, hv, hx, hr]
  exact h a' c' w' h2 (Mods.of_grown h3) h4
theorem Own.far {α β : Type} {F G : Nat → Prop} {w : World} {base base' : Nat} {e e' : TypeId} {sz sz' : Nat} {enc : α → List Value} {enc' : β → List Value} {v v' : Value} {x : List α} {x' : List β} (h : Own F w base e sz enc v x) (h' : Own G w base' e' sz' enc' v' x') (hne : e ≠ e') : ∀ g, v.ownBlock = some g → v'.ownBlock ≠ some g := by
  intro g hg hg'
  rcases h'.1.2 with ⟨rfl, _⟩ | ⟨g', cap, cur, rfl, _, h2, _⟩
  · simp [Value.ownBlock] at hg'
  · simp [Value.ownBlock] at hg'
    subst hg'
    exact Own.notB h (B := g') (c := cur) (t := e') h2 hne.symm g' hg rfl
def GB (F : Nat → Prop) (w : World) : Nat → Prop := fun k => F k ∨ (w.heap.size ≤ k ∧ k < w.heap.size + 2)
def NoF : Nat → Prop := fun _ => False
/-- while node.Get reads. -/
structure GetS (F : Nat → Prop) (ad : Nat → Addr) (w wr : World) (lf : Bool) (bv : Value) (b : List UInt8) (r : RdA) (es : List EntryA) (ks : List ByteArray) (is : List Int) (ve vk vi s1 s2 s3 : Value) : Prop where
  ext : Ext w wr
  env0 : Env F ad w
  sl0 : Sl F w 1 encB bv b
  box : Blk wr (w.heap.size + 1) #[bv, .int .i64 r.at_, .bool r.bad] 205
  nd : Blk wr (w.heap.size + 1 + 1) #[.bool lf, s1, s2, s3] 57
  oe : Own NoF wr (w.heap.size + 3) 107 4 encE ve es
  ok : Own NoF wr (w.heap.size + 3) 9 1 encS vk ks
  oi : Own NoF wr (w.heap.size + 3) 3 1 encI vi is
  res : Blk wr w.heap.size #[.bool false, .slice none 0 0, .slice none 0 0, .slice none 0 0] 57
section
variable {F : Nat → Prop} {ad : Nat → Addr} {w wr w2 : World} {lf : Bool} {bv : Value} {b : List UInt8} {r r' : RdA} {es es' : List EntryA} {ks ks' : List ByteArray} {is is' : List Int} {ve vk vi s1 s2 s3 ve' vk' vi' : Value}
theorem GetS.base (h : GetS F ad w wr lf bv b r es ks is ve vk vi s1 s2 s3) : w.heap.size + 3 ≤ wr.heap.size := by have := h.nd.lt; omega
theorem GetS.env (h : GetS F ad w wr lf bv b r es ks is ve vk vi s1 s2 s3) : Env (GB F w) ad wr :=
  h.env0.step h.ext.ext (fun k hk hn hg => hg.elim hn (fun e => by omega)) (fun k hg => hg.elim (fun hf => Nat.lt_of_lt_of_le (h.env0.lt k hf) h.ext.size) (fun e => by have := h.base; omega))
theorem GetS.rd (h : GetS F ad w wr lf bv b r es ks is ve vk vi s1 s2 s3) : RdR (GB F w) wr (w.heap.size + 1) bv b r :=
  ⟨h.box, h.sl0.step h.ext.ext (fun k hk hn hg => hg.elim hn (fun e => by omega)), .inr ⟨by omega, by omega⟩⟩
/-- nothing old turns. -/
theorem GetS.step (h : GetS F ad w wr lf bv b r es ks is ve vk vi s1 s2 s3) (m : Ext wr w2) : GetS F ad w w2 lf bv b r es ks is ve vk vi s1 s2 s3 :=
  ⟨h.ext.trans m, h.env0, h.sl0, h.box.ext m, h.nd.ext m, h.oe.ext m, h.ok.ext m, h.oi.ext m, h.res.ext m⟩
theorem GetS.drew (h : GetS F ad w wr lf bv b r es ks is ve vk vi s1 s2 s3) : GetS F ad w wr.drew lf bv b r es ks is ve vk vi s1 s2 s3 := h.step (Mods.refl _ wr).drew
theorem GetS.read (h : GetS F ad w wr lf bv b r es ks is ve vk vi s1 s2 s3) (m : Mods (fun k => k = w.heap.size + 1) wr w2) (g : RdR (GB F w) w2 (w.heap.size + 1) bv b r') : GetS F ad w w2 lf bv b r' es ks is ve vk vi s1 s2 s3 :=
  ⟨Mods.past h.ext (m.mono (fun k (hk : k = w.heap.size + 1) => by omega)), h.env0, h.sl0, g.own, h.nd.mods m (by omega),
    h.oe.mods m (fun g hg => by have := h.oe.lt g hg; omega), h.ok.mods m (fun g hg => by have := h.ok.lt g hg; omega), h.oi.mods m (fun g hg => by have := h.oi.lt g hg; omega), h.res.mods m (by omega)⟩
/-- a row is appended to. -/
theorem GetS.row (h : GetS F ad w wr lf bv b r es ks is ve vk vi s1 s2 s3) {G : Nat → Prop} (hG : ∀ k, G k → w.heap.size + 3 ≤ k) (m : Mods G wr w2)
    (oe : Own NoF w2 (w.heap.size + 3) 107 4 encE ve' es') (ok : Own NoF w2 (w.heap.size + 3) 9 1 encS vk' ks') (oi : Own NoF w2 (w.heap.size + 3) 3 1 encI vi' is') : GetS F ad w w2 lf bv b r es' ks' is' ve' vk' vi' s1 s2 s3 := by
  have hn : ∀ k, k < w.heap.size + 3 → ¬ G k := fun k hk g => by have := hG k g; omega
  exact ⟨Mods.past h.ext (m.mono (fun k hk => by have := hG k hk; omega)), h.env0, h.sl0, h.box.mods m (hn _ (by omega)), h.nd.mods m (hn _ (by omega)), oe, ok, oi, h.res.mods m (hn _ (by omega))⟩
theorem GetS.appE (h : GetS F ad w wr lf bv b r es ks is ve vk vi s1 s2 s3) (m : Mods (fun k => ve.ownBlock = some k) wr w2) (oe : Own NoF w2 (w.heap.size + 3) 107 4 encE ve' es') : GetS F ad w w2 lf bv b r es' ks is ve' vk vi s1 s2 s3 :=
  h.row (fun k hk => (h.oe.lt k hk).1) m oe (h.ok.mods m (fun g hg e => h.ok.far h.oe (by decide) g hg e)) (h.oi.mods m (fun g hg e => h.oi.far h.oe (by decide) g hg e))
theorem GetS.appK (h : GetS F ad w wr lf bv b r es ks is ve vk vi s1 s2 s3) (m : Mods (fun k => vk.ownBlock = some k) wr w2) (ok : Own NoF w2 (w.heap.size + 3) 9 1 encS vk' ks') : GetS F ad w w2 lf bv b r es ks' is ve vk' vi s1 s2 s3 :=
  h.row (fun k hk => (h.ok.lt k hk).1) m (h.oe.mods m (fun g hg e => h.oe.far h.ok (by decide) g hg e)) ok (h.oi.mods m (fun g hg e => h.oi.far h.ok (by decide) g hg e))
theorem GetS.appI (h : GetS F ad w wr lf bv b r es ks is ve vk vi s1 s2 s3) (m : Mods (fun k => vi.ownBlock = some k) wr w2) (oi : Own NoF w2 (w.heap.size + 3) 3 1 encI vi' is') : GetS F ad w w2 lf bv b r es ks is' ve vk vi' s1 s2 s3 :=
  h.row (fun k hk => (h.oi.lt k hk).1) m (h.oe.mods m (fun g hg e => h.oe.far h.oi (by decide) g hg e)) (h.ok.mods m (fun g hg e => h.ok.far h.oi (by decide) g hg e)) oi
/-- another block of the call's turns. -/
theorem GetS.far (h : GetS F ad w wr lf bv b r es ks is ve vk vi s1 s2 s3) {X : Nat} (hX : w.heap.size + 3 ≤ X) (m : Mods (fun k => k = X) wr w2) (he : ve.ownBlock ≠ some X) (hk : vk.ownBlock ≠ some X) (hi : vi.ownBlock ≠ some X) : GetS F ad w w2 lf bv b r es ks is ve vk vi s1 s2 s3 :=
  h.row (G := fun k => k = X) (fun k hk => by omega) m (h.oe.mods m (fun g hg e => he (by rw [hg, e]))) (h.ok.mods m (fun g hg e => hk (by rw [hg, e]))) (h.oi.mods m (fun g hg e => hi (by rw [hg, e])))
theorem GetS.slE (h : GetS F ad w wr lf bv b r es ks is ve vk vi s1 s2 s3) {G : Nat → Prop} (hG : ∀ k, G k → k < w.heap.size + 3) (hl : es.length ≤ 140737488355328) : Sl G wr 4 encE ve es :=
  Own.sl (F := G) ⟨h.oe.1, fun g hg f => by have := h.oe.lt g hg; have := hG g f; omega⟩ encE_ok.len hl
theorem GetS.slK (h : GetS F ad w wr lf bv b r es ks is ve vk vi s1 s2 s3) {G : Nat → Prop} (hG : ∀ k, G k → k < w.heap.size + 3) (hl : ks.length ≤ 140737488355328) : Sl G wr 1 encS vk ks :=
  Own.sl (F := G) ⟨h.ok.1, fun g hg f => by have := h.ok.lt g hg; have := hG g f; omega⟩ encS_ok.len hl
theorem GetS.slI (h : GetS F ad w wr lf bv b r es ks is ve vk vi s1 s2 s3) {G : Nat → Prop} (hG : ∀ k, G k → k < w.heap.size + 3) (hl : is.length ≤ 140737488355328) : Sl G wr 1 encI vi is :=
  Own.sl (F := G) ⟨h.oi.1, fun g hg f => by have := h.oi.lt g hg; have := hG g f; omega⟩ encI_ok.len hl
theorem GetS.gb (h : GetS F ad w wr lf bv b r es ks is ve vk vi s1 s2 s3) : ∀ k, GB F w k → k < w.heap.size + 3 := fun k hk => hk.elim (fun hf => by have := h.env0.lt k hf; omega) (fun e => by omega)
theorem GetS.fb (h : GetS F ad w wr lf bv b r es ks is ve vk vi s1 s2 s3) : ∀ k, F k → k < w.heap.size + 3 := fun k hf => by have := h.env0.lt k hf; omega
/-- a field is stored. -/
theorem GetS.put (h : GetS F ad w wr lf bv b r es ks is ve vk vi s1 s2 s3) (i : Nat) (v t1 t2 t3 : Value) (e : (#[.bool lf, s1, s2, s3] : Array Value).setIfInBounds i v = #[.bool lf, t1, t2, t3]) : GetS F ad w (wr.setCell ⟨w.heap.size + 1 + 1, i, none⟩ v) lf bv b r es ks is ve vk vi t1 t2 t3 := by
  have m : Mods (fun k => k = w.heap.size + 1 + 1) wr (wr.setCell ⟨w.heap.size + 1 + 1, i, none⟩ v) := Mods.at _ wr _ i v rfl
  have hn := h.nd.set i v
  rw [e] at hn
  exact ⟨Mods.past h.ext (m.mono (fun k (hk : k = w.heap.size + 1 + 1) => by omega)), h.env0, h.sl0, h.box.mods m (by omega), hn,
    h.oe.mods m (fun g hg => by have := h.oe.lt g hg; omega), h.ok.mods m (fun g hg => by have := h.ok.lt g hg; omega), h.oi.mods m (fun g hg => by have := h.oi.lt g hg; omega), h.res.mods m (by omega)⟩
theorem GetS.text (h : GetS F ad w wr lf bv b r es ks is ve vk vi s1 s2 s3) (h0 : 0 ≤ r.at_) (h1 : r.at_ ≤ 1000000000000) (s : ByteArray) (hx : rdText b r = (s, r')) :
    Calls Tryz.prog 109 #[.pointer (some ⟨w.heap.size + 1, 0, none⟩)] wr fun e w' => e = .returned (.string s) ∧ GetS F ad w w' lf bv b r' es ks is ve vk vi s1 s2 s3 ∧ Mods (fun k => k = w.heap.size + 1) wr w' := by
  have := rdText_any h.env h.rd h0 h1
  rw [hx] at this
  exact this.mono fun e w' ⟨a1, a2, a3⟩ => ⟨a1, h.read a3 a2, a3⟩
theorem GetS.num (h : GetS F ad w wr lf bv b r es ks is ve vk vi s1 s2 s3) (W : Nat) (hW : W = 1 ∨ W = 2 ∨ W = 4) (h0 : 0 ≤ r.at_) (h1 : r.at_ ≤ 1000000000000) (n : Nat) (hx : rdNum b r W = (n, r')) :
    Calls Tryz.prog 108 #[.pointer (some ⟨w.heap.size + 1, 0, none⟩), .int .i64 (W : Int)] wr fun e w' => e = .returned (.int .i64 (n : Int)) ∧ GetS F ad w w' lf bv b r' es ks is ve vk vi s1 s2 s3 ∧ Mods (fun k => k = w.heap.size + 1) wr w' :=
  (rdNum_to h.env h.rd W hW h0 h1 n r' hx).mono fun _ _ ⟨a1, a2, a3⟩ => ⟨a1, h.read a3 a2, a3⟩
end
end Go.Proofs.YtmgfneijcfjlfaaGreatDoor
