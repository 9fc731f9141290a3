/- bound.Batch, bound.Safe, block.Right. -/
import Derived.Test.YtcjlbpmhkoidhaaDoorBoundW3
namespace Go.Proofs.YtcjlbpmhkoidhaaDoor
open Go.RowKit

theorem Sl.two {α : Type} {F : Nat → Prop} {w : World} {sz : Nat} {enc : α → List Value} {x y : α} {b : Nat} {t : TypeId} {fz : Nat × Nat} (h : w.heap[b]? = some (.cells (enc x ++ enc y).toArray t fz)) (hx : (enc x).length = sz) (hF : ¬ F b) :
    Sl F w sz enc (.slice (some ⟨b, 0, none⟩) 2 2) [x, y] := by
  refine ⟨_, 2, rfl, Nat.le_refl _, by simp [maxLen], by simp, .inr ⟨b, 0, rfl, (Array.getElem?_eq_some_iff.1 h).1, hF, fun i z hi j u hu => ?_⟩⟩
  match i, hi with
  | 0, hi =>
    simp at hi; subst hi
    rw [cells_of_block h]
    have hj : j < (enc x).length := (List.getElem?_eq_some_iff.1 hu).1
    simp only [List.getElem?_toArray, Nat.zero_mul, Nat.zero_add, List.getElem?_append_left hj]; exact hu
  | 1, hi =>
    simp at hi; subst hi
    rw [cells_of_block h]
    simp only [List.getElem?_toArray, Nat.one_mul, Nat.zero_add]
    rw [List.getElem?_append_right (by omega)]
    rw [← hu]; congr 1; omega

theorem listsOf2 (F : Nat → Prop) {w : World} {lv kv : Value} {l k : List PairB} (hl : Sl F w 2 encP lv l) (hk : Sl F w 2 encP kv k) :
    ∀ (i : Nat) (v : Value) (x : List PairB), [lv, kv][i]? = some v → [l, k][i]? = some x → Sl F w 2 encP v x := by
  intro i v x h1 h2
  match i, h1, h2 with
  | 0, h1, h2 => simp at h1 h2; subst h1 h2; exact hl
  | 1, h1, h2 => simp at h1 h2; subst h1 h2; exact hk
theorem code_two (size : Int) (l k : List PairB) (h : codeN size [l, k] = 0) : 256 ≤ size ∧ size ≤ 1024 ∧ rightP l = true ∧ rightP k = true := by
  unfold codeN at h
  split at h
  · omega
  · split at h
    · rename_i h1 h2; simp at h2; exact ⟨by omega, by omega, h2⟩
    · omega

set_option maxHeartbeats 400000 in
theorem Batch_any {F : Nat → Prop} {ad : Nat → Addr} {w : World} (hL : Env F ad w) (lv kv : Value) (l k : List PairB) (size : Int) (hl : Sl F w 2 encP lv l) (hk : Sl F w 2 encP kv k) :
    Calls Tryd.prog 14 #[lv, kv, .int .i64 size] w (NumPost F ad w (codeN size [l, k]) (batchN l k size)) := by
  have m0 : Mods F w (w.alloc (.cells #[lv, kv] 22)) := (Mods.refl F w).alloc _
  have HS : Hid (Sl F (w.alloc (.cells #[lv, kv] 22)) 1 encV (.slice (some ⟨w.heap.size, 0, none⟩) 2 2) [lv, kv]) := Lib.hid (Sl.two (by exact heap_at rfl) rfl hL.new)
  have HL := Lib.hid (hL.mods m0)
  have HV := Lib.hid (listsOf2 F (hl.mods m0) (hk.mods m0))
  have hl0 := Lib.hid hl
  have hk0 := Lib.hid hk
  have hx : ∃ a n c, lv = .slice a n c := by obtain ⟨a, c, h, _⟩ := hl; exact ⟨a, _, c, h⟩
  have hy : ∃ a n c, kv = .slice a n c := by obtain ⟨a, c, h, _⟩ := hk; exact ⟨a, _, c, h⟩
  obtain ⟨a, n, c, rfl⟩ := hx
  obtain ⟨a', n', c', rfl⟩ := hy
  clear hl hL hk m0
  go_enter Tryd.func14, Tryd.ntmps14
  go_wp2_with fail
  refine (check_any HL.out _ size _ _ [l, k] HS.out rfl HV.out).mono ?_
  rintro e w1 ⟨ev, rfl, hres, hm⟩
  have hm2 : Ext w w1 := ((Mods.refl _ w).alloc _).trans hm
  rcases hres with ⟨hc, rfl⟩ | ⟨hc, b, q, rfl, hE⟩
  · have HC := Lib.hid (code_two size l k hc)
    have HC0 := Lib.hid hc
    clear hc
    go_wp2_with (go_at_call 27; refine (batch_any _ _ l k size _ (hl0.out.mods (Mods.ext hm2)) (hk0.out.mods (Mods.ext hm2)) (rightFrom_mem l _ HC.out.2.2.1) (rightFrom_mem k _ HC.out.2.2.2) HC.out.1 HC.out.2.1).mono ?_; rintro e w' ⟨rfl, hm3⟩)
    go_ret2
    exact ⟨_, _, rfl, by rw [if_pos HC0.out], .inl ⟨HC0.out, rfl⟩, hm2.trans hm3⟩
  · have HC := Lib.hid hc
    have HE := Lib.hid hE
    clear hc hE
    go_wp2
    go_ret2
    exact ⟨_, _, rfl, by rw [if_neg HC.out], .inr ⟨HC.out, _, _, rfl, HE.out⟩, hm2⟩

/-- may a geometry be? -/
def rightG (blocks size : Int) : Bool := decide (8 ≤ blocks) && decide (blocks ≤ 256) && decide (256 ≤ size) && decide (size ≤ 1024)

theorem Right4_any (b s : Int) (w : World) : Calls Tryd.prog 28 #[.agg #[.int .i64 b, .int .i64 s]] w fun e w' => e = .returned (.bool (rightG b s)) ∧ Ext w w' := by
  by_cases h1 : 8 ≤ b
  · by_cases h2 : b ≤ 256
    · by_cases h3 : 256 ≤ s
      · have HR : Hid (rightG b s = (decide (8 ≤ b) && decide (b ≤ 256) && decide (256 ≤ s) && decide (s ≤ 1024))) := Lib.hid rfl
        go_enter Tryd.func28, Tryd.ntmps28
        go_wp2
        go_ret
        exact ⟨ret_bool (by rw [HR.out]; simp; try omega), (Mods.refl _ w).alloc _⟩
      · have HR : Hid (rightG b s = (decide (8 ≤ b) && decide (b ≤ 256) && decide (256 ≤ s) && decide (s ≤ 1024))) := Lib.hid rfl
        go_enter Tryd.func28, Tryd.ntmps28
        go_wp2
        go_ret
        exact ⟨ret_bool (by rw [HR.out]; simp; try omega), (Mods.refl _ w).alloc _⟩
    · have HR : Hid (rightG b s = (decide (8 ≤ b) && decide (b ≤ 256) && decide (256 ≤ s) && decide (s ≤ 1024))) := Lib.hid rfl
      go_enter Tryd.func28, Tryd.ntmps28
      go_wp2
      go_ret
      exact ⟨ret_bool (by rw [HR.out]; simp; try omega), (Mods.refl _ w).alloc _⟩
  · have HR : Hid (rightG b s = (decide (8 ≤ b) && decide (b ≤ 256) && decide (256 ≤ s) && decide (s ≤ 1024))) := Lib.hid rfl
    go_enter Tryd.func28, Tryd.ntmps28
    go_wp2
    go_ret
    exact ⟨ret_bool (by rw [HR.out]; simp; try omega), (Mods.refl _ w).alloc _⟩

/-- a yes or no, or why it can't be told. -/
def YesPost (F : Nat → Prop) (ad : Nat → Addr) (w : World) (c : Nat) (y : Bool) (e : Ending) (w' : World) : Prop :=
  ∃ v ev, e = .returned (.tuple #[.bool v, ev]) ∧ (v = if c = 0 then y else false) ∧ IsRes F ad w' c ev ∧ Ext w w'

/-- why it can't be told whether a disk is great enough. -/
def codeG (b s : Int) (ls : List (List PairB)) : Nat := if rightG b s then codeN s ls else 2

set_option maxHeartbeats 400000 in
theorem Safe_any {F : Nat → Prop} {ad : Nat → Addr} {w : World} (hL : Env F ad w) (gb gs : Int) (lv kv : Value) (l k : List PairB) (hl : Sl F w 2 encP lv l) (hk : Sl F w 2 encP kv k) :
    Calls Tryd.prog 15 #[.agg #[.int .i64 gb, .int .i64 gs], lv, kv] w (YesPost F ad w (codeG gb gs [l, k]) (decide (batchN l k gs ≤ gb))) := by
  have m0 : Ext w (w.alloc (.cells #[.int .i64 gb, .int .i64 gs] 34)) := (Mods.refl _ w).alloc _
  have HL := Lib.hid hL
  have hl0 := Lib.hid hl
  have hk0 := Lib.hid hk
  have hx : ∃ a n c, lv = .slice a n c := by obtain ⟨a, c, h, _⟩ := hl; exact ⟨a, _, c, h⟩
  have hy : ∃ a n c, kv = .slice a n c := by obtain ⟨a, c, h, _⟩ := hk; exact ⟨a, _, c, h⟩
  obtain ⟨a, n, c, rfl⟩ := hx
  obtain ⟨a', n', c', rfl⟩ := hy
  clear hl hk hL
  go_enter Tryd.func15, Tryd.ntmps15
  go_wp2_with fail
  refine (Right4_any gb gs _).mono ?_
  rintro e w1 ⟨rfl, hm⟩
  have hm2 : Ext w w1 := m0.trans hm
  have hm3 := Lib.hid hm2
  have hgb : w1.cell? ⟨w.heap.size, 0, none⟩ = some (.int .i64 gb) := by rw [hm.cell (by simp) (fun f => f)]; simp
  have hgs : w1.cell? ⟨w.heap.size, 1, none⟩ = some (.int .i64 gs) := by rw [hm.cell (by simp) (fun f => f)]; simp
  have g2 := (HL.out.mods (Mods.ext hm2)).c2
  clear hm hm2 m0
  cases hg : rightG gb gs
  · have HC : Hid (codeG gb gs [l, k] = 2) := Lib.hid (by unfold codeG; rw [hg]; rfl)
    go_wp2_with (go_at_call 29; refine (new_any (HL.out.mods (Mods.ext hm3.out)) _ _ _ 2 (.sent 2 (by omega) (by omega))).mono ?_; rintro e w' ⟨b, rfl, hE, hM⟩)
    go_ret2
    exact ⟨_, _, rfl, by rw [HC.out]; rfl, by rw [HC.out]; exact .inr ⟨by omega, _, _, rfl, hE⟩, hm3.out.trans hM⟩
  · have HC : Hid (codeG gb gs [l, k] = codeN gs [l, k]) := Lib.hid (by unfold codeG; rw [hg]; rfl)
    go_wp2_with fail
    refine (Batch_any (HL.out.mods (Mods.ext hm3.out)) _ _ l k gs (hl0.out.mods (Mods.ext hm3.out)) (hk0.out.mods (Mods.ext hm3.out))).mono ?_
    rintro e w2 ⟨v, ev, rfl, hv, hres, hm4⟩
    have hb2 : w.heap.size < w1.heap.size := cell_lt hgb
    have hgb2 : w2.cell? ⟨w.heap.size, 0, none⟩ = some (.int .i64 gb) := (hm4.cell hb2 (fun f => f)).trans hgb
    have HV := Lib.hid hv
    clear hv hgb
    rcases hres with ⟨hc, rfl⟩ | ⟨hc, b, q, rfl, hE⟩
    · have HC0 := Lib.hid hc
      clear hc
      go_wp2
      go_ret2
      exact ⟨_, _, rfl, by rw [HC.out, if_pos HC0.out]; have := HV.out; rw [if_pos HC0.out] at this; rw [this], by rw [HC.out]; exact .inl ⟨HC0.out, rfl⟩, hm3.out.trans hm4⟩
    · have HC0 := Lib.hid hc
      have HE := Lib.hid hE
      clear hc hE
      go_wp2_with (go_at_call 30; refine (wrap_any (HL.out.mods (Mods.ext (hm3.out.trans hm4))) _ _ _ _ HE.out).mono ?_; rintro e w' ⟨b, rfl, hE, hM⟩)
      go_ret2
      exact ⟨_, _, rfl, by rw [HC.out, if_neg HC0.out], by rw [HC.out]; exact .inr ⟨HC0.out, _, _, rfl, hE⟩, (hm3.out.trans hm4).trans hM⟩
end Go.Proofs.YtcjlbpmhkoidhaaDoor
