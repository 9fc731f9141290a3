/- append(v, make([]byte, n)...), v the call's own row. Over any program. | slices.Clone, slices.Equal at []byte. | copy(dst, src), dst the call's own row of as many bytes. -/
import Derived.Test.YtidjkcfjocppmaaDoorKBase1
import Derived.Lib.AppendZerosOnto
import Derived.Lib.AppendZeros
import Derived.Deep.MidRow
import Derived.Test.YtidjkcfjocppmaaDoorKField
import Derived.Lib.SliceRun
import Derived.Laws.IdiomCopy
import Derived.Lib.SlBuf
namespace Go.Proofs.YtidjkcfjocppmaaDoor
open Go.RowKit

theorem Blk.setMany {b : Nat} {t : TypeId} : ∀ (vs : List Value) (o : Nat) (w : World) (c : Array Value), Blk w b c t → o + vs.length ≤ c.size →
    Blk (w.setCells b o vs) b (c.toList.take o ++ vs ++ c.toList.drop (o + vs.length)).toArray t
  | [], o, w, c, h, _ => by simpa [World.setCells] using h
  | v :: r, o, w, c, h, hl => by
    rw [List.length_cons] at hl
    have h1 := Blk.setMany r (o + 1) _ _ (h.set o v) (by simp; omega)
    rw [World.setCells]
    have e : (c.setIfInBounds o v).toList = c.toList.take o ++ v :: c.toList.drop (o + 1) := by
      rw [Array.toList_setIfInBounds, List.set_eq_take_append_cons_drop, if_pos (by simp; omega)]
    rw [e] at h1
    have hto : (c.toList.take o).length = o := by simp; omega
    rw [List.take_append, hto, List.take_of_length_le (by omega), show o + 1 - o = 0 + 1 by omega, List.take_succ_cons, List.take_zero,
      List.drop_append, hto, List.drop_of_length_le (by omega), show o + 1 + r.length - o = r.length + 1 by omega, List.drop_succ_cons, List.drop_drop] at h1
    rw [List.length_cons]
    simpa [List.append_assoc, Nat.add_assoc, Nat.add_comm, Nat.add_left_comm] using h1
theorem Mods.setMany {F : Nat → Prop} {w : World} {b : Nat} (hb : w.heap.size ≤ b ∨ F b) : ∀ (vs : List Value) (o : Nat) (w' : World), Mods F w w' → Mods F w (w'.setCells b o vs)
  | [], _, _, h => h
  | v :: r, o, w', h => by rw [World.setCells]; exact Mods.setMany hb r (o + 1) _ (h.setCell (p := ⟨b, o, none⟩) hb v)

theorem flatMap_rep {α : Type} {enc : α → List Value} (_ : EncOk enc 1) (x0 : α) {z : Value} (hx0 : enc x0 = [z]) (n : Nat) : (List.replicate n x0).flatMap enc = List.replicate n z := by
  induction n with
  | zero => rfl
  | succ n ih => rw [List.replicate_succ, List.flatMap_cons, ih, hx0]; rfl
theorem zeroCells_one (z : Value) (n : Nat) : Builtin.zeroCells #[z] n = (List.replicate n z).toArray := by
  apply Array.ext
  · simp [Builtin.zeroCells]
  · intro i h1 h2
    simp [Builtin.zeroCells, Nat.mod_one]

theorem run_app_zeros {P : Program} {F : Nat → Prop} {w : World} {t tn e : TypeId} {z : Value} {bytes : Nat} {α : Type} {enc : α → List Value} (T : ElT P t e z 1 bytes) (E : EncOk enc 1) (x0 : α) (hx0 : enc x0 = [z]) (hzc : z.cells = #[z]) (kn : IntKind) (htn : P.underlying tn = some (.int kn))
    (ty : TypeId) (base g n : Nat) (c : Nat) (l : List α) (hown : Own F w base e 1 enc (.slice (some ⟨g, 0, none⟩) l.length c) l) (hb : (l.length + n) * bytes ≤ 140737488355328) (hbase : base ≤ w.heap.size) (hn : Bd F w) :
    ∃ a' c' w', (Builtin.append_ #[t, tn] ty #[.slice (some ⟨g, 0, none⟩) l.length c, .int .i64 (n : Int)]).run P w = .ok (.slice a' (l.length + n) c') w' ∧
      Own F w' base e 1 enc (.slice a' (l.length + n) c') (l ++ List.replicate n x0) ∧ Mods (fun k => base ≤ k) w w' := by
  obtain ⟨i, hi, hz, hs1, hb1⟩ := info3 T.info
  rcases hown.1.2 with ⟨h, _⟩ | ⟨g', cap, cur, heq, hbg, hg, hcap, hm, hsz, htake⟩
  · cases h
  · simp only [Value.slice.injEq, Option.some.injEq, Addr.mk.injEq, true_and, and_true] at heq
    obtain ⟨rfl, rfl⟩ := heq
    have hlen2 : (l.flatMap enc).length = l.length := by rw [flatMap_len E.len, Nat.mul_one]
    have hbig : l.length + n ≤ 140737488355328 := Nat.le_trans (Nat.le_mul_of_pos_right _ T.by0) hb
    have hw : IntKind.i64.wrap (n : Int) = n := by rw [IntKind.wrap_i64]; omega
    have hneg : ¬ ((n : Int) < 0) := by omega
    have hrep := flatMap_rep E x0 hx0 n
    have h48 : ¬ (281474976710656 < (n : Int) * (i.bytes : Int)) := by
      have := Nat.mul_le_mul_right bytes (Nat.le_add_left n l.length)
      rw [hb1, ← Int.natCast_mul]; omega
    have hlx : (l ++ List.replicate n x0).length = l.length + n := by simp
    by_cases hroom : l.length + n ≤ c
    · have hsz2 : l.length + n ≤ cur.size := by rw [hsz]; omega
      have hst := run_storeCells_cells (P := P) g l.length (List.replicate n z) 0 w
        (fun j hj => by
          have hj' : j < n := by simpa using hj
          rw [cells_of_block hg]; simp; omega)
        (fun j _ => Blk.frozen (c := cur) (t := e) hg _)
        (fun u hu => by rw [List.eq_of_mem_replicate hu]; exact E.one x0 z (by rw [hx0]; simp))
      simp only [Nat.add_zero] at hst
      have hB := Blk.setMany (List.replicate n z) l.length w cur hg (by simpa using hsz2)
      refine ⟨some ⟨g, 0, none⟩, c, w.setCells g l.length (List.replicate n z), ?_, ?_, Mods.setMany (.inr hbg) _ _ _ (Mods.refl _ w)⟩
      · simp [Builtin.append_, run_underlying T.under, run_underlying htn, sizeOf, typeInfo, zeroValue, hi, hz, hs1, asInt, asIntOf, hw, hneg, hroom]
        rw [if_neg h48]
        by_cases h0 : n = 0
        · subst h0
          simp [storeCells, World.setCells]
        · rw [if_neg h0, hzc, zeroCells_one]
          simp only [Addr.add_mid, Nat.zero_add]
          simp [hst]
      · have := Own.made (F := F) (base := base) (enc := enc) (l := l ++ List.replicate n x0) (sz := 1) (cap := c) hB hbg (hown.2 g rfl) (by rw [hlx]; exact hroom) hm (by simp; omega) (by
          rw [hlx, Nat.mul_one, List.flatMap_append, hrep]
          have h1 : cur.toList.take l.length = l.flatMap enc := by simpa using htake
          simp only [h1]
          rw [List.take_append_of_le_length (by simp [hlen2]), List.take_of_length_le (by simp [hlen2])]) E.len
        rw [hlx] at this
        exact this
    · have hn0 : 0 < n := by omega
      have hfc := run_firstCells_some (P := P) w.drew i.size l.length ⟨g, 0, none⟩ l.length c (l.flatMap enc) (by rw [hs1, Nat.mul_one]; exact hlen2) (fun j u hu => by
        have h1 := hown.1.cells (g := g) rfl j u hu
        exact h1)
      have hr := Lib.run_append_grow_zeros (P := P) w t tn ty e i z .i64 kn T.under htn hi hz (some ⟨g, 0, none⟩) l.length c (l.flatMap enc) hfc n hn0 (by omega) (by omega) (by omega)
        (by have := Nat.mul_le_mul_right i.bytes (Nat.le_add_left n l.length); rw [hb1] at this ⊢; omega) (growslice_fits (by omega) (by rw [hb1]; exact hb))
      have hge := grownCap_ge w (l.length + n) c e
      have hcm : grownCap w (l.length + n) c e ≤ maxLen := grownCap_le_maxLen w (l.length + n) c e (by simp only [maxLen]; omega)
      refine ⟨_, _, _, hr, ?_, ((Mods.refl _ w).drew.alloc _)⟩
      have := Own.made (F := F) (base := base) (e := e) (enc := enc) (l := l ++ List.replicate n x0) (sz := 1) (cap := grownCap w (l.length + n) c e) (cur := (l.flatMap enc).toArray ++ Builtin.zeroCells z.cells n ++ Builtin.zeroCells z.cells (grownCap w (l.length + n) c e - (l.length + n))) (heap_alloc_new w.drew _) hbase hn.new (by rw [hlx]; exact hge) hcm (by
        rw [hzc]; simp [zeroCells_one, hlen2]; omega) (by
          rw [hlx, Nat.mul_one, List.flatMap_append, hrep, hzc]
          simp only [zeroCells_one, Array.toList_append]
          rw [List.take_append_of_le_length (by simp [hlen2]), List.take_of_length_le (by simp [hlen2])]) E.len
      rw [hlx] at this
      exact this

theorem wpl_app_zeros {P : Program} {F : Nat → Prop} {w : World} {t tn e : TypeId} {z : Value} {bytes : Nat} {α : Type} {enc : α → List Value} (T : ElT P t e z 1 bytes) (E : EncOk enc 1) (x0 : α) (hx0 : enc x0 = [z]) (hzc : z.cells = #[z]) (kn : IntKind) (htn : P.underlying tn = some (.int kn))
    {ops : Array Oper} {rest : List Oper} {o : Oper} {a : Act} {Q : Exit → Act → World → Prop} (hgd : o.guard = none) (sx x : Operand)
    (ho : o.op = .call { callee := .builtin .append, args := #[sx, x], argTypes := #[t, tn] })
    (base : Nat) (ga : Option Addr) (k c n : Nat) (zi : Int) (l : List α) (hv : a.eval sx = .slice ga k c) (hx : a.eval x = .int .i64 zi) (hk : k = l.length) (hzi : zi = (n : Int)) (h0 : 0 < k)
    (hown : Own F w base e 1 enc (.slice ga k c) l) (hb : (k + n) * bytes ≤ 140737488355328) (hbase : base ≤ w.heap.size) (hn : Bd F w)
    (h : ∀ a' c' w', Own F w' base e 1 enc (.slice a' (k + n) c') (l ++ List.replicate n x0) → Mods (fun k => base ≤ k) w w' → wpList P ops Q rest (a.put o.dst (.slice a' (k + n) c')) w') :
    wpList P ops Q (o :: rest) a w := by
  subst hk hzi
  obtain ⟨g, rfl⟩ : ∃ g, ga = some ⟨g, 0, none⟩ := by
    rcases hown.1.2 with ⟨h1, h2⟩ | ⟨g, cap, cur, heq, _⟩
    · omega
    · simp only [Value.slice.injEq] at heq; exact ⟨g, heq.1⟩
  obtain ⟨a', c', w', hr, h1, h2⟩ := run_app_zeros T E x0 hx0 hzc kn htn o.type base g n c l hown hb hbase hn
  exact Lib.wpList_append_run w hgd sx x t tn ho _ _ hv hx _ _ hr (h a' c' w' h1 h2)
end Go.Proofs.YtidjkcfjocppmaaDoor
namespace Go.Proofs.YtidjkcfjocppmaaDoor
open Go.RowKit

set_option maxRecDepth 100000 in
theorem Clone_any {F : Nat → Prop} {w : World} (hF : Bd F w) (bv : Value) (l : List UInt8) (hb : Sl F w 1 encB bv l) :
    Calls Tryd.prog 97 #[bv] w fun e w' => ∃ a c, e = .returned (.slice a l.length c) ∧ Own F w' w.heap.size 5 1 encB (.slice a l.length c) l ∧ Ext w w' := by
  have HB := Lib.hid hb
  have HF := Lib.hid hF
  obtain ⟨a, cap, rfl, h1, h2, h3, h4⟩ := hb
  unfold maxLen at h2
  have hq := fun (a : Option Addr) (n : Nat) (w : World) => Go.Lib.run_eql_slice_nil (P := Tryd.prog) w 50 5 a n cap 0 0 Tryd.underlying50
  match a, h4 with
  | none, h4 =>
    have hl : l = [] := by
      rcases h4 with h | ⟨_, _, h, _⟩
      · exact h
      · cases h
    subst hl
    clear h4 hF
    go_enter Tryd.func97, Tryd.ntmps97
    go_wp2_with fail
    go_ret
    exact ⟨none, 0, rfl, Own.nil _ _ _ _ _ _, Mods.refl _ _⟩
  | some ad, h4 =>
    clear h4 hF
    go_enter Tryd.func97, Tryd.ntmps97
    go_wp2_with (at_builtin; go_loud (refine wpl_app Tryd.elB encB_ok rfl _ _ rfl w.heap.size _ _ [] l rfl rfl (Own.empty HF.out _ _ _ (fun _ => rfl)) (HB.out.mods ((Mods.refl _ w).alloc _)) (by simp; omega) (by simp) (HF.out.mods ((Mods.refl F w).alloc _)) ?_); simp only [List.length_nil, Nat.zero_add, List.nil_append]; intro a1 c1 w1 hO hm1)
    have HO := Lib.hid hO
    have HM : Hid (Ext w w1) := Lib.hid (Mods.past ((Mods.refl _ w).alloc _) hm1)
    clear hO hm1
    go_wp2_with fail
    go_ret
    exact ⟨a1, c1, rfl, HO.out, HM.out⟩

set_option maxRecDepth 100000 in
theorem EqualB_any {F G : Nat → Prop} {w : World} (av bv : Value) (l m : List UInt8) (ha : Sl F w 1 encB av l) (hb : Sl G w 1 encB bv m) :
    Calls Tryd.prog 95 #[av, bv] w fun e w' => e = .returned (.bool (decide (l = m))) ∧ Ext w w' := by
  obtain ⟨a, cap, rfl, h1, h2, h3, h4⟩ := ha
  obtain ⟨b, cap2, rfl, i1, i2, i3, i4⟩ := hb
  unfold maxLen at h2 i2
  have H4 := Lib.hid h4
  have I4 := Lib.hid i4
  clear h4 i4
  by_cases hl : l.length = m.length
  · obtain ⟨n, hn⟩ : ∃ n, n = l.length := ⟨_, rfl⟩
    rw [← hl, ← hn] at i1 i3 ⊢
    rw [← hn] at h1 h3
    have N1 : Hid (n = l.length) := Lib.hid hn
    have N2 : Hid (n = m.length) := Lib.hid (hn.trans hl)
    clear hn hl
    go_enter Tryd.func95, Tryd.ntmps95
    go_wp2_with fail
    go_loopg [13] n (fun q v13 wr => ∃ k : Nat, k + q = n ∧ v13 = .int .i64 k ∧ Hid (l.take k = m.take k) ∧ Hid (Ext w wr))
    case atStart => exact ⟨0, by omega, rfl, Lib.hid rfl, Lib.hid (Mods.refl _ _)⟩
    case round =>
      obtain ⟨k, hk, rfl, HQ, HM⟩ := hrel
      by_cases hltn : k < n
      · have hlt : k < l.length := by have := N1.out; omega
        have hlt2 : k < m.length := by have := N2.out; omega
        obtain ⟨b1, off1, rfl, hb1, hF1, hc1⟩ := Sl.atE H4.out HM.out k hlt
        obtain ⟨b2, off2, rfl, hb2, hF2, hc2⟩ := Sl.atE I4.out HM.out k hlt2
        obtain ⟨x, hx⟩ : ∃ x, x = l[k] := ⟨_, rfl⟩
        obtain ⟨y, hy⟩ : ∃ y, y = m[k] := ⟨_, rfl⟩
        have d1 := hc1 0 (.int .u8 (x.toNat : Int)) (by rw [hx]; rfl)
        have d2 := hc2 0 (.int .u8 (y.toNat : Int)) (by rw [hy]; rfl)
        simp only [Nat.mul_one, Nat.add_zero] at d1 d2
        have hx8 : x.toNat < 256 := x.toNat_lt
        have hy8 : y.toNat < 256 := y.toNat_lt
        have hx2 : l[k]? = some x := by rw [hx]; simp [hlt]
        have hy2 : m[k]? = some y := by rw [hy]; simp [hlt2]
        have HT : Hid (x = y → l.take (k + 1) = m.take (k + 1)) := Lib.hid (fun e => by rw [take_one l k x hx2, take_one m k y hy2, HQ.out, e])
        have HN : Hid (x ≠ y → decide (l = m) = false) := Lib.hid (fun e => by
          rw [decide_eq_false_iff_not]; intro h; rw [h, hy2] at hx2; injection hx2 with h5; exact e h5.symm)
        clear hc1 hc2 hx hy hx2 hy2 hlt hlt2
        by_cases hxy : x = y
        · subst hxy
          go_wp2_with fail
          go_region
          go_wp2_with fail
          go_roundg (gk - 1)
          case measure => omega
          case rel => exact ⟨k + 1, by omega, by go_num, Lib.hid (HT.out (by first | rfl | trivial)), Lib.hid HM.out.drew⟩
        · have hne : x.toNat ≠ y.toNat := fun e => hxy (UInt8.toNat_inj.1 e)
          have HN2 := Lib.hid (HN.out hxy)
          clear hxy
          go_wp2_with fail
          go_region
          go_wp2_with fail
          go_ret
          exact ⟨ret_bool HN2.out.symm, HM.out.drew⟩
      · have he : Hid (decide (l = m) = true) := Lib.hid (by
          have := HQ.out
          have n1 := N1.out
          have n2 := N2.out
          rw [List.take_of_length_le (by omega), List.take_of_length_le (by omega)] at this
          simp [this])
        go_wp2_with fail
        go_ret
        exact ⟨ret_bool he.out.symm, HM.out⟩
  · have he : Hid (decide (l = m) = false) := Lib.hid (by rw [decide_eq_false_iff_not]; intro h; exact hl (by rw [h]))
    go_enter Tryd.func95, Tryd.ntmps95
    go_wp2_with fail
    go_ret
    exact ⟨ret_bool he.out.symm, Mods.refl _ _⟩
end Go.Proofs.YtidjkcfjocppmaaDoor
namespace Go.Proofs.YtidjkcfjocppmaaDoor
open Go.RowKit

theorem run_copy_bytes {P : Program} {F : Nat → Prop} {w : World} {t e : TypeId} (T : ElT P t e (.int .u8 0) 1 1) (ty : TypeId) (g : Nat) (c : Array Value) (te : TypeId) (l : List UInt8) (a : Addr) (cap : Nat) (hg : Blk w g c te) (hc : c.size = l.length)
    (hs : Sl F w 1 encB (.slice (some a) l.length cap) l) :
    (Builtin.copy_ #[t, t] ty #[.slice (some ⟨g, 0, none⟩) l.length l.length, .slice (some a) l.length cap]).run P w = .ok (goInt l.length) (w.setCells g 0 (l.flatMap encB)) ∧
      Blk (w.setCells g 0 (l.flatMap encB)) g (l.flatMap encB).toArray te := by
  have hlen : (l.flatMap encB).length = l.length := by rw [flatMap_len encB_ok.len, Nat.mul_one]
  obtain ⟨i, hi, hz, hs1, hb1⟩ := info3 T.info
  constructor
  · obtain ⟨a', cap', he, h1, h2, h3, h4⟩ := hs
    simp only [Value.slice.injEq, true_and] at he
    obtain ⟨rfl, rfl⟩ := he
    have := run_copy_cells (P := P) w t t ty e g 0 l.length l.length a l.length cap (l.flatMap encB) T.under (by rw [hi]; simp [hs1]) (by rw [hlen]; simp)
      (fun j v hj => by
        have hjl : j < l.length := by rw [← hlen]; exact (List.getElem?_eq_some_iff.1 hj).1
        rcases h4 with h | ⟨b, off, h, hb, hF, hcc⟩
        · rw [h] at hjl; simp at hjl
        · injection h with h
          subst h
          have h5 := flatMap_at encB_ok.len l j l[j] 0 (.int .u8 (l[j].toNat : Int)) (by simp [hjl]) rfl
          simp only [Nat.mul_one, Nat.add_zero] at h5
          rw [h5] at hj; injection hj with hj; subst hj
          have h6 := hcc j l[j] (by simp [hjl]) 0 (.int .u8 (l[j].toNat : Int)) rfl
          simp only [Nat.mul_one, Nat.add_zero] at h6
          rw [Addr.add_mid]; exact h6)
      (fun j hj => by rw [hlen] at hj; rw [cells_of_block hg]; simp; omega) (fun j _ => hg.frozen _)
      (fun v hv => by obtain ⟨x, _, hx⟩ := List.mem_flatMap.1 hv; exact encB_ok.one x v hx)
    rw [hlen] at this
    exact this
  · have := Blk.setMany (l.flatMap encB) 0 w c hg (by rw [hlen, hc]; omega)
    rw [hlen] at this
    rw [List.drop_of_length_le (by rw [Array.length_toList, hc]; omega)] at this
    simpa using this
theorem run_copy_none {P : Program} {w : World} {t e : TypeId} (T : ElT P t e (.int .u8 0) 1 1) (ty : TypeId) (g : Nat) (a : Option Addr) (cap : Nat) :
    (Builtin.copy_ #[t, t] ty #[.slice (some ⟨g, 0, none⟩) 0 0, .slice a 0 cap]).run P w = .ok (goInt 0) w := by
  obtain ⟨i, hi, hz, hs1, hb1⟩ := info3 T.info
  cases a <;> simp [Builtin.copy_, run_underlying T.under, sizeOf, typeInfo, hi, Builtin.lenOf, Builtin.firstCells, storeCells, loadCells, loadCellsFrom]
/-- .. of none, too. -/
theorem run_copy_bytes' {P : Program} {F : Nat → Prop} {w : World} {t e : TypeId} (T : ElT P t e (.int .u8 0) 1 1) (ty : TypeId) (g : Nat) (c : Array Value) (te : TypeId) (l : List UInt8) (a : Option Addr) (cap : Nat) (hg : Blk w g c te) (hc : c.size = l.length)
    (hs : Sl F w 1 encB (.slice a l.length cap) l) :
    ∃ w', (Builtin.copy_ #[t, t] ty #[.slice (some ⟨g, 0, none⟩) l.length l.length, .slice a l.length cap]).run P w = .ok (goInt l.length) w' ∧ Blk w' g (l.flatMap encB).toArray te ∧ Mods (fun k => k = g) w w' := by
  by_cases h0 : l = []
  · subst h0
    refine ⟨w, run_copy_none T ty g a cap, ?_, Mods.refl _ _⟩
    have : c = #[] := Array.eq_empty_of_size_eq_zero (by simpa using hc)
    subst this
    exact hg
  · obtain ⟨a', cap', he, _, _, _, h4⟩ := hs
    rcases h4 with h4 | ⟨b, off, h5, h6⟩
    · exact absurd h4 h0
    · simp only [Value.slice.injEq, true_and] at he
      have hs' : Sl F w 1 encB (.slice a l.length cap) l := ⟨a', cap', by rw [he.1, he.2], ‹_›, ‹_›, ‹_›, .inr ⟨b, off, h5, h6⟩⟩
      rw [he.1, h5] at hs' ⊢
      obtain ⟨h1, h2⟩ := run_copy_bytes T ty g c te l ⟨b, off, none⟩ cap hg hc hs'
      exact ⟨_, h1, h2, Mods.setMany (F := fun k => k = g) (.inr rfl) _ _ _ (Mods.refl _ w)⟩
end Go.Proofs.YtidjkcfjocppmaaDoor
