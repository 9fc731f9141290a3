/- fault.Page, fault.Ops, named. -/
import Derived.Test.YtidjkcfjocppmaaDoorKAs2
import Derived.Test.YtidjkcfjocppmaaDoorKLawC
namespace Go.Proofs.YtidjkcfjocppmaaDoor
open Go.RowKit
/-- errors.errorType holds what its initialiser laid. -/
def TypeLaid (w : World) : Prop := w.cell? ⟨9, 0, none⟩ = some (.iface 152 (.agg #[.pointer (some ⟨10, 34, none⟩)]))
theorem TypeLaid.ext {w w' : World} (h : TypeLaid w) (m : Ext w w') : TypeLaid w' := (m.cell (cell_lt h) (fun f => f)).trans h
/-- the first page that an error names. -/
def pageF : List Int → Int
  | [] => -1
  | p :: l => if 0 ≤ p then p else pageF l
theorem pageF_ge : ∀ l : List Int, -1 ≤ pageF l
  | [] => by simp [pageF]
  | p :: l => by
    rw [pageF]
    split
    · omega
    · exact pageF_ge l
set_option maxRecDepth 100000 in
set_option maxHeartbeats 2000000 in
theorem Page_any {F : Nat → Prop} {ad : Nat → Addr} {w : World} (hg : TypeLaid w) (v : Value) (l : List Int) (c : Nat) (he : ErrC F ad w v l c) (hl : l.length < 900) (_hr : ∀ p ∈ l, -9223372036854775808 ≤ p ∧ p ≤ 9223372036854775807) :
    Calls Tryd.prog 31 #[v] w fun e w' => e = .returned (.int .i64 (pageF l)) ∧ Ext w w' := by
  obtain ⟨t, x, rfl⟩ := he.iface
  have HG := Lib.hid hg
  have HE := Lib.hid he
  clear hg he
  go_enter Tryd.func31, Tryd.ntmps31
  go_wp2_with fail
  go_loopg [0, 4] l.length (fun q v0 v4 wr => ∃ (l' : List Int) (k : Nat) (fv : Value), l'.length = q ∧ v4 = .int .i64 k ∧ k + q = l.length ∧ Hid (ErrC F ad w v0 l' c ∧ pageF l' = pageF l ∧ Blk wr w.heap.size #[fv] 107 ∧ Ext w wr))
  case atStart => exact ⟨l, 0, .pointer none, rfl, rfl, by omega, Lib.hid ⟨HE.out, rfl, Blk.new w _ _, (Mods.refl _ w).alloc _⟩⟩
  case round =>
    obtain ⟨l', k, fv, hq, rfl, hk, HW⟩ := hrel
    obtain ⟨h1, h2, h3, h4⟩ := HW.out
    have hlt : w.heap.size < wr.heap.size := h3.lt
    cases h1 with
    | sent j j1 j9 =>
      have HP : Hid (pageF l = -1) := Lib.hid (by rw [← h2]; rfl)
      clear h2 h3 h4
      go_wp2_with fail
      refine (as_miss _ _ wr (HG.out.ext HW.out.2.2.2)).mono ?_
      rintro e w2 ⟨rfl, hm2⟩
      have HM2 := Lib.hid (HW.out.2.2.2.trans hm2)
      clear hm2
      go_wp2_with fail
      go_ret
      exact ⟨ret_int HP.out.symm, HM2.out⟩
    | wrap b op pg v1 l1 _ hb hF hc he1 =>
      obtain ⟨t1, x1, rfl⟩ := he1.iface
      have HE1 := Lib.hid he1
      have HP : Hid ((if 0 ≤ pg then pg else pageF l1) = pageF l) := Lib.hid h2
      have HC : Hid (∀ w', Ext w w' → w'.cell? ⟨b, 1, none⟩ = some (.int .i64 pg) ∧ w'.cell? ⟨b, 2, none⟩ = some (.iface t1 x1)) := Lib.hid (fun w' m => by
        have h := (m.block b hb (fun f => f)).trans hc
        exact ⟨by rw [cells_of_block h]; rfl, by rw [cells_of_block h]; rfl⟩)
      have HB3 := Lib.hid h3
      have hq1 : l1.length + 1 = gk := by rw [← hq]; rfl
      have hk9 : k < 900 := by omega
      have hbl : b < w.heap.size := hb
      clear h2 h3 h4 hc he1 hF hq
      go_wp2_with fail
      refine (as_fault b w.heap.size fv wr (HG.out.ext HW.out.2.2.2) HB3.out).mono ?_
      rintro e w2 ⟨rfl, hV2, hm2⟩
      have hE2 : Ext w w2 := HW.out.2.2.2.trans' hm2 (fun i hi e => by omega)
      obtain ⟨c1, c2⟩ := HC.out w2 hE2
      have cV := hV2.cell (o := 0) rfl
      have HV2 := Lib.hid hV2
      have HE2 := Lib.hid hE2
      clear hV2 hm2 hE2
      by_cases hp : 0 ≤ pg
      · rw [if_pos hp] at HP
        go_wp2_with fail
        go_ret
        exact ⟨ret_int HP.out, HE2.out⟩
      · rw [if_neg hp] at HP
        go_wp2_with fail
        go_roundg l1.length
        case measure => omega
        case rel => exact ⟨l1, k + 1, _, rfl, by go_num, by omega, Lib.hid ⟨HE1.out, HP.out, HV2.out, HE2.out⟩⟩
theorem encS_ok : EncOk encS 1 := ⟨fun _ => rfl, by intro x u hu; simp [encS] at hu; subst hu; rfl⟩
theorem Tryd.elS : ElT Tryd.prog 112 9 (.string ⟨#[]⟩) 1 16 := ⟨Tryd.underlying112, by kernel_rfl, rfl, by decide, by decide⟩
set_option maxRecDepth 100000 in
set_option maxHeartbeats 2000000 in
theorem Ops_any {F : Nat → Prop} {ad : Nat → Addr} {w : World} (hg : TypeLaid w) (v : Value) (l : List Int) (c : Nat) (he : ErrC F ad w v l c) (hl : l.length < 60) :
    Calls Tryd.prog 57 #[v] w fun e w' => ∃ a cap, e = .returned (.slice a l.length cap) ∧ Ext w w' := by
  obtain ⟨t, x, rfl⟩ := he.iface
  have HG := Lib.hid hg
  have HE := Lib.hid he
  clear hg he
  go_enter Tryd.func57, Tryd.ntmps57
  go_wp2_with fail
  go_loopg [0, 3] l.length (fun q v0 v3 wr => ∃ (l' : List Int) (k : Nat) (fv : Value) (os : List ByteArray), l'.length = q ∧ k + q = l.length ∧ os.length = k ∧ Hid (ErrC F ad w v0 l' c ∧ Own (fun _ => False) wr w.heap.size 9 1 encS v3 os ∧ (∀ g, v3.ownBlock = some g → g ≠ w.heap.size) ∧ Blk wr w.heap.size #[fv] 107 ∧ Ext w wr))
  case atStart => exact ⟨l, 0, .pointer none, [], rfl, by omega, rfl, Lib.hid ⟨HE.out, Own.nil _ _ _ _ _ _, by simp [Value.ownBlock], Blk.new w _ _, (Mods.refl _ w).alloc _⟩⟩
  case round =>
    obtain ⟨l', k, fv, os, hq, hk, hos, HW⟩ := hrel
    obtain ⟨a3, cap3, rfl, hcap, hcap2, hcap3, _⟩ := HW.out.2.1.sl encS_ok.len (by omega)
    unfold maxLen at hcap2
    rw [hos] at HW hcap hcap3 ⊢
    have hlt : w.heap.size < wr.heap.size := HW.out.2.2.2.1.lt
    obtain ⟨h1, _⟩ := HW.out
    cases h1 with
    | sent j j1 j9 =>
      have hkl : l.length = k := by have : gk = 0 := by rw [← hq]; rfl
                                    omega
      have HK := Lib.hid hkl
      clear hkl
      go_wp2_with fail
      refine (as_miss _ _ wr (HG.out.ext HW.out.2.2.2.2)).mono ?_
      rintro e w2 ⟨rfl, hm2⟩
      have HM2 := Lib.hid (HW.out.2.2.2.2.trans hm2)
      clear hm2
      go_wp2_with fail
      go_ret
      exact ⟨a3, cap3, by rw [HK.out]; rfl, HM2.out⟩
    | wrap b op pg v1 l1 _ hb hF hc he1 =>
      obtain ⟨t1, x1, rfl⟩ := he1.iface
      have HE1 := Lib.hid he1
      have HC : Hid (∀ w', Ext w w' → w'.cell? ⟨b, 0, none⟩ = some (.string op) ∧ w'.cell? ⟨b, 2, none⟩ = some (.iface t1 x1)) := Lib.hid (fun w' m => by
        have h := (m.block b hb (fun f => f)).trans hc
        exact ⟨by rw [cells_of_block h]; rfl, by rw [cells_of_block h]; rfl⟩)
      have hq1 : l1.length + 1 = gk := by rw [← hq]; rfl
      have hk9 : k < 60 := by omega
      clear hc he1 hF hq
      go_wp2_with fail
      refine (as_fault b w.heap.size fv wr (HG.out.ext HW.out.2.2.2.2) HW.out.2.2.2.1).mono ?_
      rintro e w2 ⟨rfl, hV2, hm2⟩
      have hE2 : Ext w w2 := HW.out.2.2.2.2.trans' hm2 (fun i hi e => by omega)
      obtain ⟨c0, c2⟩ := HC.out w2 hE2
      have cV := hV2.cell (o := 0) rfl
      have HV2 := Lib.hid hV2
      have HE2 := Lib.hid hE2
      have HO2 := Lib.hid (HW.out.2.1.mods hm2 (fun g hg e => HW.out.2.2.1 g hg e))
      have HZ := Lib.hid hE2.size
      have HNE := Lib.hid HW.out.2.2.1
      have hbl : b < w2.heap.size := Nat.lt_of_lt_of_le hb hE2.size
      have hVl : w.heap.size < w2.heap.size := hV2.lt
      clear hV2 hm2 hE2
      go_wp2_with (at_builtin; refine wpl_app2 Tryd.elS encS_ok rfl _ _ rfl w.heap.size (.slice a3 k cap3) (.slice (some ⟨w2.heap.size, 0, none⟩) 1 1) os [op] rfl rfl (HO2.out.ext ((Mods.refl _ _).alloc _)) (Sl.one (F := fun _ => False) (x := op) (t := 9) (fz := (0, 0)) (heap_at rfl) (fun f => f)) (by rw [hos]; simp; omega) (Nat.le_trans HZ.out (by simp)) (fun f => f) ?_; intro a' c' w5 hown hmod hat; have hB5 := (HV2.out.alloc (.cells #[.string op] 9)).mods hmod (fun e => HNE.out _ e rfl); have hE5 : Ext w w5 := (HE2.out.alloc _).trans' hmod (fun i hi e => by have := (HO2.out.lt i e).1; omega); have y1 := hB5.cell (o := 0) rfl; have y2 := (HC.out w5 hE5).2)
      have e1 : os.length + [op].length = k + 1 := by rw [hos]; rfl
      rw [e1] at hown hat
      have HR : Hid (Own (fun _ => False) w5 w.heap.size 9 1 encS (.slice a' (k + 1) c') (os ++ [op]) ∧ (∀ g, (Value.slice a' (k + 1) c').ownBlock = some g → g ≠ w.heap.size) ∧ Blk w5 w.heap.size #[.pointer (some ⟨b, 0, none⟩)] 107 ∧ Ext w w5) := Lib.hid ⟨hown, fun g hg => by
        rcases hat with e | e
        · exact HNE.out g (e ▸ hg)
        · rw [e] at hg; injection hg with hg
          have := HZ.out
          simp at hg; omega, hB5, hE5⟩
      clear hown hmod hat hB5 hE5 y1 y2 e1
      go_roundg l1.length
      case measure => omega
      case rel => exact ⟨l1, k + 1, _, os ++ [op], rfl, by omega, by simp [hos], Lib.hid ⟨HE1.out, HR.out⟩⟩
set_option maxRecDepth 100000 in
theorem named_any {F : Nat → Prop} {ad : Nat → Addr} {w : World} (hg : TypeLaid w) (v : Value) (l : List Int) (c : Nat) (he : ErrC F ad w v l c) (hl : l.length < 60) (h1 : 1 ≤ l.length) (hr : ∀ p ∈ l, -9223372036854775808 ≤ p ∧ p ≤ 9223372036854775807) (bad : Int) :
    Calls Tryd.prog 32 #[v, .int .i64 bad] w fun e w' => e = .returned (.bool true) ∧ Ext w w' := by
  have HG := Lib.hid hg
  have HE := Lib.hid he
  have HR := Lib.hid hr
  have HH := Lib.hid hl
  obtain ⟨n, hn⟩ : ∃ n, n = l.length := ⟨_, rfl⟩
  obtain ⟨pf, hpf⟩ : ∃ p, p = pageF l := ⟨_, rfl⟩
  have HN := Lib.hid hn
  have HP := Lib.hid hpf
  have hn0 : 0 < n := by omega
  have hn1 : (0 : Int) < (n : Int) := by omega
  clear hg he hr hl hn hpf h1
  go_enter Tryd.func32, Tryd.ntmps32
  go_wp2_with fail
  refine (Page_any HG.out _ l c HE.out (by have := HH.out; omega) HR.out).mono ?_
  rintro e w1 ⟨rfl, hm1⟩
  rw [← HP.out]
  have HM1 := Lib.hid hm1
  clear hm1
  by_cases hb : pf = bad
  · subst hb
    go_wp2_with fail
    go_ret
    exact ⟨rfl, HM1.out⟩
  · have hb2 : (pf == bad) = false := beq_eq_false_iff_ne.2 hb
    clear hb
    go_wp2_with fail
    refine (Ops_any (HG.out.ext HM1.out) _ l c (HE.out.mods HM1.out.ext) HH.out).mono ?_
    rintro e w2 ⟨a, cap, rfl, hm2⟩
    rw [← HN.out]
    have HM2 := Lib.hid (HM1.out.trans hm2)
    clear hm2
    go_wp2_with fail
    refine (Page_any (HG.out.ext HM2.out) _ l c (HE.out.mods HM2.out.ext) (by have := HH.out; omega) HR.out).mono ?_
    rintro e w3 ⟨rfl, hm3⟩
    rw [← HP.out]
    have HM3 := Lib.hid (HM2.out.trans hm3)
    clear hm3
    go_wp2_with fail
    go_ret
    have hb3 : (pf != bad) = true := by rw [bne, hb2]; rfl
    exact ⟨ret_bool hb3, HM3.out⟩
end Go.Proofs.YtidjkcfjocppmaaDoor
