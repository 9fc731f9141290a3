/- fault.Page. -/
import Derived.Test.YtmgfneijcfjlfaaGreatDoorK40
import Derived.Test.YtmgfneijcfjlfaaGreatDoorK22
namespace Go.Proofs.YtmgfneijcfjlfaaGreatDoor
open Go.RowKit
/-- errors.errorType holds what its initialiser laid. -/
def TypeLaid (w : World) : Prop := w.cell? ⟨9, 0, none⟩ = some (.iface 212 (.agg #[.pointer (some ⟨10, 38, none⟩)]))
theorem TypeLaid.ext {w w' : World} (h : TypeLaid w) (m : Ext w w') : TypeLaid w' := (m.cell (cell_lt h) (fun f => f)).trans h
/-- the first page that an error names. -/
def pageF : List Int → Int
  | [] => -1
  | p :: l => if 0 ≤ p then p else pageF l
theorem pageF_ge : ∀ l : List Int, -1 ≤ pageF l
  | [] => by simp [pageF]
  | p :: l => by
    rw [pageF]
    split
    · omega
    · exact pageF_ge l
set_option maxRecDepth 100000 in
set_option maxHeartbeats 2000000 in
theorem Page_any {F : Nat → Prop} {ad : Nat → Addr} {w : World} (hg : TypeLaid w) (v : Value) (l : List Int) (c : Nat) (he : ErrC F ad w v l c) (hl : l.length < 900) (_hr : ∀ p ∈ l, -9223372036854775808 ≤ p ∧ p ≤ 9223372036854775807) :
    Calls Tryz.prog 24 #[v] w fun e w' => e = .returned (.int .i64 (pageF l)) ∧ Ext w w' := by
  obtain ⟨t, x, rfl⟩ := he.iface
  have HG := Lib.hid hg
  have HE := Lib.hid he
  clear hg he
  go_enter Tryz.func24, Tryz.ntmps24
  go_wp2_with fail
  go_loopg [0, 4] l.length (fun q v0 v4 wr => ∃ (l' : List Int) (k : Nat) (fv : Value), l'.length = q ∧ v4 = .int .i64 k ∧ k + q = l.length ∧ Hid (ErrC F ad w v0 l' c ∧ pageF l' = pageF l ∧ Blk wr w.heap.size #[fv] 128 ∧ Ext w wr))
  case atStart => exact ⟨l, 0, .pointer none, rfl, rfl, by omega, Lib.hid ⟨HE.out, rfl, Blk.new w _ _, (Mods.refl _ w).alloc _⟩⟩
  case round =>
    obtain ⟨l', k, fv, hq, rfl, hk, HW⟩ := hrel
    obtain ⟨h1, h2, h3, h4⟩ := HW.out
    have hlt : w.heap.size < wr.heap.size := h3.lt
    cases h1 with
    | sent j j1 j9 =>
      have HP : Hid (pageF l = -1) := Lib.hid (by rw [← h2]; rfl)
      clear h2 h3 h4
      go_wp2_with fail
      refine (as_miss _ _ wr (HG.out.ext HW.out.2.2.2)).mono ?_
      rintro e w2 ⟨rfl, hm2⟩
      have HM2 := Lib.hid (HW.out.2.2.2.trans hm2)
      clear hm2
      go_wp2_with fail
      go_ret
      exact ⟨ret_int HP.out.symm, HM2.out⟩
    | wrap b op pg v1 l1 _ hb hF hc he1 =>
      obtain ⟨t1, x1, rfl⟩ := he1.iface
      have HE1 := Lib.hid he1
      have HP : Hid ((if 0 ≤ pg then pg else pageF l1) = pageF l) := Lib.hid h2
      have HC : Hid (∀ w', Ext w w' → w'.cell? ⟨b, 1, none⟩ = some (.int .i64 pg) ∧ w'.cell? ⟨b, 2, none⟩ = some (.iface t1 x1)) := Lib.hid (fun w' m => by
        have h := (m.block b hb (fun f => f)).trans hc
        exact ⟨by rw [cells_of_block h]; rfl, by rw [cells_of_block h]; rfl⟩)
      have HB3 := Lib.hid h3
      have hq1 : l1.length + 1 = gk := by rw [← hq]; rfl
      have hk9 : k < 900 := by omega
      have hbl : b < w.heap.size := hb
      clear h2 h3 h4 hc he1 hF hq
      go_wp2_with fail
      refine (as_fault b w.heap.size fv wr (HG.out.ext HW.out.2.2.2) HB3.out).mono ?_
      rintro e w2 ⟨rfl, hV2, hm2⟩
      have hE2 : Ext w w2 := HW.out.2.2.2.trans' hm2 (fun i hi e => by omega)
      obtain ⟨c1, c2⟩ := HC.out w2 hE2
      have cV := hV2.cell (o := 0) rfl
      have HV2 := Lib.hid hV2
      have HE2 := Lib.hid hE2
      clear hV2 hm2 hE2
      by_cases hp : 0 ≤ pg
      · rw [if_pos hp] at HP
        go_wp2_with fail
        go_ret
        exact ⟨ret_int HP.out, HE2.out⟩
      · rw [if_neg hp] at HP
        go_wp2_with fail
        go_roundg l1.length
        case measure => omega
        case rel => exact ⟨l1, k + 1, _, rfl, by go_num, by omega, Lib.hid ⟨HE1.out, HP.out, HV2.out, HE2.out⟩⟩
end Go.Proofs.YtmgfneijcfjlfaaGreatDoor
