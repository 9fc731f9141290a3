/- ref10.Body. -/
import Derived.Test.YtidjkcfjocppmaaDoorKLawB
import Derived.Test.YtidjkcfjocppmaaDoorKLawC
import Derived.Laws.IdiomStrings
import Derived.IntWalk
namespace Go.Proofs.YtidjkcfjocppmaaDoor
open Go.RowKit
/-- '[]byte(s)'. -/
theorem conv_bytes {P : Program} {src dst e : TypeId} (hs : P.underlying src = some .string) (hd : P.underlying dst = some (.slice e)) (he : P.underlying e = some (.int .u8)) (w : World) (s : ByteArray) (z : Nat) (hz : z = s.size) (hl : s.size ≤ 1000000) :
    ∃ cap w', (convert src dst (.string s)).run P w = .ok (.slice (some ⟨w.heap.size, 0, none⟩) z cap) w' ∧ Ext w w' ∧ Sl (fun _ => False) w' 1 encB (.slice (some ⟨w.heap.size, 0, none⟩) z cap) s.data.toList := by
  subst hz
  refine ⟨_, _, run_bytes_of_string w src dst e s hs hd he, ((Mods.refl _ w).drew).alloc _, _, _, by rw [size_toList], ?_, ?_, by rw [size_toList]; omega, ?_⟩
  · rw [size_toList]; exact grownCap_ge w _ 0 e
  · exact grownCap_le_maxLen w _ 0 e (by unfold maxLen; omega)
  · refine .inr ⟨w.heap.size, 0, rfl, by simp, fun f => f, fun i x hx j u hu => ?_⟩
    have hil := (List.getElem?_eq_some_iff.1 hx).1
    rw [size_toList] at hil
    match j, hu with
    | 0, hu =>
      simp only [encB, List.getElem?_cons_zero, Option.some.injEq] at hu
      subst hu
      refine (cells_of_block (b := w.heap.size) (heap_alloc_new w.drew _) _).trans ?_
      simp only [Nat.zero_add, Nat.mul_one, Nat.add_zero]
      unfold bytesRow
      rw [Array.getElem?_append_left (by rw [Array.size_map]; exact hil), Array.getElem?_map]
      have h1 : s.data[i]? = some x := by rw [← Array.getElem?_toList]; exact hx
      rw [h1]
      rfl
    | j + 1, hu => simp [encB] at hu
set_option maxRecDepth 100000 in
set_option maxHeartbeats 1000000 in
theorem Body_any {F : Nat → Prop} {w : World} (v : ByteArray) (iv : Value) (ids : List Nat) (hi : Sl F w 1 encN iv ids) (hids : ∀ x ∈ ids, x < 4294967296) (hlen : ids.length ≤ 1000) (i : Nat) (hil : i < ids.length) (hv : i * 228 ≤ v.size) (h4096 : v.size ≤ 4096) :
    Calls Tryd.prog 26 #[.string v, iv, .int .i64 (i : Int), .int .i64 256] w fun e w' => ∃ bv, e = .returned bv ∧ Sl (fun _ => False) w' 1 encB bv (leB 4 (ids.getD (i + 1) 0) ++ pieceB v.data.toList 228 i) ∧ Ext w w' := by
  obtain ⟨a, cap, rfl, h1, h2, h3, h4⟩ := hi
  unfold maxLen at h2
  obtain ⟨n, hn⟩ : ∃ n, n = ids.length := ⟨_, rfl⟩
  rw [← hn] at h1 h3 hlen hil ⊢
  obtain ⟨p, hp⟩ : ∃ p, p = i * 228 := ⟨_, rfl⟩
  rw [← hp] at hv
  obtain ⟨q, hq⟩ : ∃ q, q = min (p + 228) v.size := ⟨_, rfl⟩
  have hq1 : min ((p : Int) + 256 - 28) (v.size : Int) = (q : Int) := by omega
  have hpI : (i : Int) * 228 = (p : Int) := by omega
  have hpq : (p : Int) ≤ (q : Int) := by omega
  have hqv : (q : Int) ≤ (v.size : Int) := by omega
  have HX : Hid ((v.extract p q).data.toList = pieceB v.data.toList 228 i) := Lib.hid (by
    rw [piece_ext]; unfold pieceB
    rw [← hp]
    have hl : v.data.toList.length = v.size := size_toList v
    by_cases hc : p + 228 ≤ v.size
    · rw [show q - p = 228 by omega]
    · rw [List.take_of_length_le (by rw [List.length_drop, hl]; omega), List.take_of_length_le (by rw [List.length_drop, hl]; omega)])
  have HXZ : Hid ((v.extract p q).size ≤ 300) := Lib.hid (by rw [ByteArray.size_extract]; omega)
  obtain ⟨nx, hnx⟩ : ∃ nx, nx = ids.getD (i + 1) 0 := ⟨_, rfl⟩
  have hnx32 : nx < 4294967296 := by
    rw [hnx]
    by_cases hc : i + 1 < ids.length
    · simp only [List.getD, List.getElem?_eq_getElem hc, Option.getD_some]
      exact hids _ (List.getElem_mem _)
    · simp [List.getD, List.getElem?_eq_none (show ids.length ≤ i + 1 by omega)]
  rw [← hnx]
  have hin : i + 1 < n ∨ (n : Int) ≤ (i : Int) + 1 := by omega
  have HNX := Lib.hid hnx
  have HN := Lib.hid hn
  have H4 := Lib.hid h4
  have u1 : IntKind.i64.wrap ((p : Int)) = (p : Int) := IntWalk.i64_in _ (by omega)
  clear hnx hn h4 hp hq hids
  rcases hin with hin | hin
  · obtain ⟨b, off, rfl, hb, hF, hc⟩ := Sl.atE H4.out (Mods.refl _ w) (i + 1) (by rw [← HN.out]; exact hin)
    have c0 := hc 0 (.int .i64 (nx : Int)) (by
      have : ids[i + 1]'(by rw [← HN.out]; exact hin) = nx := by rw [HNX.out]; simp [List.getD, List.getElem?_eq_getElem (show i + 1 < ids.length by rw [← HN.out]; exact hin)]
      rw [this]; rfl)
    simp only [Nat.mul_one, Nat.add_zero] at c0
    have hinI : (i : Int) + 1 < (n : Int) := by omega
    clear hc
    go_enter Tryd.func26, Tryd.ntmps26
    go_wp2_with fail
    refine (Put03_any (F := fun _ => False) _ [] ⟨_, 0, rfl, Nat.le_refl _, by simp [maxLen], by simp, .inl rfl⟩ nx 4 (by omega) (by omega) (by omega) (by simp)).mono ?_
    rintro e w2 ⟨a2, c2, rfl, hown, hm⟩
    simp only [List.length_nil, Nat.zero_add, List.nil_append] at hown ⊢
    obtain ⟨z, hz⟩ : ∃ z, z = (v.extract p q).size := ⟨_, rfl⟩
    obtain ⟨cap3, w3, hconv, hm3, hsl⟩ := conv_bytes (P := Tryd.prog) Tryd.underlying9 Tryd.underlying50 Tryd.underlying5 w2 (v.extract p q) z hz (by have := HXZ.out; omega)
    have HM2 : Hid (Ext w w2) := Lib.hid (((Mods.refl _ w).alloc _).trans hm)
    have HM3 := Lib.hid (HM2.out.trans hm3)
    have HO := Lib.hid ((hown.rebase (base' := w.heap.size) (by simp)).ext hm3)
    have HSL := Lib.hid hsl
    have HZ := Lib.hid HM3.out.size
    clear hown hm hm3 hsl hz
    go_wp2_with (at_builtin; refine wpl_app2 Tryd.elB encB_ok rfl _ _ rfl w.heap.size (.slice a2 4 c2) _ (leB 4 nx) (v.extract p q).data.toList rfl rfl HO.out HSL.out (by rw [leB_length, size_toList]; have := HXZ.out; omega) HZ.out (fun f => f) ?_; intro a' c' w4 hown4 hmod hat)
    have HO4 := Lib.hid hown4
    have HM4 : Hid (Ext w w4) := Lib.hid (HM3.out.trans' hmod (fun i hi h => by have := (HO.out.lt i h).1; omega))
    clear hown4 hmod hat
    go_wp2_with fail
    go_ret
    refine ⟨_, rfl, ?_, HM4.out⟩
    have h := Own.sl (F := fun _ => False) HO4.out encB_ok.len (by rw [List.length_append, leB_length, size_toList]; have := HXZ.out; omega)
    rw [HX.out] at h
    have e : (leB 4 nx).length + (pieceB v.data.toList 228 i).length = (leB 4 nx).length + min (q - p) (v.size - p) := by rw [← HX.out, size_toList, ByteArray.size_extract]; omega
    rw [e] at h
    exact h 
  · have hinI : ¬ ((i : Int) + 1 < (n : Int)) := by omega
    have hnx0 : nx = 0 := by rw [HNX.out]; simp [List.getD, List.getElem?_eq_none (show ids.length ≤ i + 1 by rw [← HN.out]; omega)]
    subst hnx0
    go_enter Tryd.func26, Tryd.ntmps26
    go_wp2_with fail
    refine (Put03_any (F := fun _ => False) _ [] ⟨_, 0, rfl, Nat.le_refl _, by simp [maxLen], by simp, .inl rfl⟩ 0 4 (by omega) (by omega) (by omega) (by simp)).mono ?_
    rintro e w2 ⟨a2, c2, rfl, hown, hm⟩
    simp only [List.length_nil, Nat.zero_add, List.nil_append] at hown ⊢
    obtain ⟨z, hz⟩ : ∃ z, z = (v.extract p q).size := ⟨_, rfl⟩
    obtain ⟨cap3, w3, hconv, hm3, hsl⟩ := conv_bytes (P := Tryd.prog) Tryd.underlying9 Tryd.underlying50 Tryd.underlying5 w2 (v.extract p q) z hz (by have := HXZ.out; omega)
    have HM2 : Hid (Ext w w2) := Lib.hid (((Mods.refl _ w).alloc _).trans hm)
    have HM3 := Lib.hid (HM2.out.trans hm3)
    have HO := Lib.hid ((hown.rebase (base' := w.heap.size) (by simp)).ext hm3)
    have HSL := Lib.hid hsl
    have HZ := Lib.hid HM3.out.size
    clear hown hm hm3 hsl hz
    go_wp2_with (at_builtin; refine wpl_app2 Tryd.elB encB_ok rfl _ _ rfl w.heap.size (.slice a2 4 c2) _ (leB 4 0) (v.extract p q).data.toList rfl rfl HO.out HSL.out (by rw [leB_length, size_toList]; have := HXZ.out; omega) HZ.out (fun f => f) ?_; intro a' c' w4 hown4 hmod hat)
    have HO4 := Lib.hid hown4
    have HM4 : Hid (Ext w w4) := Lib.hid (HM3.out.trans' hmod (fun i hi h => by have := (HO.out.lt i h).1; omega))
    clear hown4 hmod hat
    go_wp2_with fail
    go_ret
    refine ⟨_, rfl, ?_, HM4.out⟩
    have h := Own.sl (F := fun _ => False) HO4.out encB_ok.len (by rw [List.length_append, leB_length, size_toList]; have := HXZ.out; omega)
    rw [HX.out] at h
    have e : (leB 4 0).length + (pieceB v.data.toList 228 i).length = (leB 4 0).length + min (q - p) (v.size - p) := by rw [← HX.out, size_toList, ByteArray.size_extract]; omega
    rw [e] at h
    exact h 
/-- .. as its reading says. -/
theorem Body_is {F : Nat → Prop} {w : World} (v : ByteArray) (iv : Value) (m : Nat) (hi : Sl F w 1 encN iv (firstL m)) (hm : m ≤ 1000) (i : Nat) (hil : i < m) (hv : i * 228 ≤ v.size) (h4096 : v.size ≤ 4096) (bd : List UInt8) (hbd : bd = leB 4 ((idsK 0 m).getD (i + 1) 0) ++ pieceB v.data.toList 228 i) (ln : Nat) (hln : ln = bd.length) :
    Calls Tryd.prog 26 #[.string v, iv, .int .i64 (i : Int), .int .i64 256] w fun e w' => ∃ a cap, e = .returned (.slice a ln cap) ∧ Sl (fun _ => False) w' 1 encB (.slice a ln cap) bd ∧ Ext w w' := by
  have hfl : (firstL m).length = m := by simp [firstL]
  refine (Body_any v iv (firstL m) hi (fun x hx => ?_) (by omega) i (by omega) hv h4096).mono ?_
  · unfold firstL at hx
    rw [List.mem_map] at hx
    obtain ⟨q, hq, rfl⟩ := hx
    rw [List.mem_range] at hq
    omega
  · rintro e w' ⟨bv, rfl, hb, hm⟩
    rw [← idsK_first, ← hbd] at hb
    obtain ⟨a, cap, rfl, _⟩ := _root_.id hb
    subst hln
    exact ⟨a, cap, rfl, hb, hm⟩
end Go.Proofs.YtidjkcfjocppmaaDoor
