/- Walks of layer 19's program side, to its end: most, Most, Least, Depth, longest, Worst, batch, Batch, Safe. -/
import Derived.Test.YtcjlbpmhkoidhaaDoorBoundW2
import Derived.Deep.RegionWith
import Derived.Deep.QuietTactic
import Derived.BigQuiet
namespace Go.Proofs.YtcjlbpmhkoidhaaDoor
open Go.RowKit

theorem chainP_le (size : Int) (x : PairB) (h : x.2.size ≤ 4096) : 0 ≤ chainP size x ∧ chainP size x ≤ 4096 := by
  have := needN_le x.2.size size (by omega)
  unfold chainP; split <;> omega
theorem weighP_le (x : PairB) (h1 : x.1.size ≤ 32) : 0 ≤ weighP x ∧ weighP x ≤ 60 := by
  unfold weighP; split <;> omega
theorem chains_le (size : Int) (l : List PairB) (hr : ∀ p ∈ l, p.1.size ≤ 32 ∧ p.2.size ≤ 4096) : 0 ≤ sumBy (chainP size) l ∧ sumBy (chainP size) l ≤ 4096 * l.length :=
  sumBy_le _ 4096 l (fun x hx => chainP_le size x (hr x hx).2)
theorem weighs_le (l : List PairB) (hr : ∀ p ∈ l, p.1.size ≤ 32 ∧ p.2.size ≤ 4096) : 0 ≤ sumBy weighP l ∧ sumBy weighP l ≤ 60 * l.length :=
  sumBy_le _ 60 l (fun x hx => weighP_le x (hr x hx).1)

theorem most_any {F : Nat → Prop} (lv : Value) (l : List PairB) (size : Int) (w : World) (hl : Sl F w 2 encP lv l) (hr : ∀ p ∈ l, p.1.size ≤ 32 ∧ p.2.size ≤ 4096) :
    Calls Tryd.prog 19 #[lv, .int .i64 size] w fun e w' => e = .returned (.int .i64 (mostN l size)) ∧ Ext w w' := by
  have hl0 := Lib.hid hl
  obtain ⟨a, cap, rfl, h1, h2, h3, h4⟩ := hl
  unfold maxLen at h2
  have hb := chains_le size l hr
  obtain ⟨hb1, hb2⟩ := hb
  have HR := Lib.hid hr
  clear hr h4
  by_cases he : l = []
  · have HM : Hid (mostN l size = 0) := Lib.hid (by unfold mostN; rw [if_pos he])
    have hz : ((l.length : Int) == 0) = true := by rw [he]; rfl
    clear he
    go_enter Tryd.func19, Tryd.ntmps19
    go_wp2
    go_ret
    exact ⟨ret_int HM.out.symm, Mods.refl _ _⟩
  · have HM : Hid (mostN l size = 2 * l.length - 1 + sumBy (chainP size) l) := Lib.hid (by unfold mostN; rw [if_neg he])
    have hn : 1 ≤ l.length := by cases l; exact absurd rfl he; simp
    clear he
    go_enter Tryd.func19, Tryd.ntmps19
    go_wp2_with (go_at_call 22; refine (chains_any _ l size _ hl0.out HR.out).mono ?_; rintro e w' ⟨rfl, hm⟩)
    go_ret
    exact ⟨ret_int HM.out.symm, hm⟩

/-- a number, or why there is none. -/
def NumPost (F : Nat → Prop) (ad : Nat → Addr) (w : World) (c : Nat) (n : Int) (e : Ending) (w' : World) : Prop :=
  ∃ v ev, e = .returned (.tuple #[.int .i64 v, ev]) ∧ (v = if c = 0 then n else 0) ∧ IsRes F ad w' c ev ∧ Ext w w'

theorem listsOf (F : Nat → Prop) {w : World} {lv : Value} {l : List PairB} (hl : Sl F w 2 encP lv l) : ∀ (i : Nat) (v : Value) (x : List PairB), [lv][i]? = some v → [l][i]? = some x → Sl F w 2 encP v x := by
  intro i v x h1 h2
  match i, h1, h2 with
  | 0, h1, h2 => simp at h1 h2; subst h1 h2; exact hl
theorem code_one (size : Int) (l : List PairB) (h : codeN size [l] = 0) : 256 ≤ size ∧ size ≤ 1024 ∧ rightP l = true := by
  unfold codeN at h
  split at h
  · omega
  · split at h
    · rename_i h1 h2; simp at h2; exact ⟨by omega, by omega, h2⟩
    · omega
theorem codeN_le (size : Int) (ls : List (List PairB)) : codeN size ls ≤ 2 := by
  unfold codeN; split
  · omega
  · split <;> omega

set_option maxHeartbeats 400000 in
theorem Most_any {F : Nat → Prop} {ad : Nat → Addr} {w : World} (hL : Env F ad w) (lv : Value) (l : List PairB) (size : Int) (hl : Sl F w 2 encP lv l) :
    Calls Tryd.prog 5 #[lv, .int .i64 size] w (NumPost F ad w (codeN size [l]) (mostN l size)) := by
  have HS : Hid (Sl F (w.alloc (.cells #[lv] 22)) 1 encV (.slice (some ⟨w.heap.size, 0, none⟩) 1 1) [lv]) := Lib.hid (Sl.one (by exact heap_at rfl) hL.new)
  have HL := Lib.hid (hL.mods ((Mods.refl F w).alloc (.cells #[lv] 22)))
  have HV := Lib.hid (listsOf F (hl.mods ((Mods.refl F w).alloc (.cells #[lv] 22))))
  have hl0 := Lib.hid hl
  have hx : ∃ a n c, lv = .slice a n c := by obtain ⟨a, c, h, _⟩ := hl; exact ⟨a, _, c, h⟩
  obtain ⟨a, n, c, rfl⟩ := hx
  clear hl hL
  go_enter Tryd.func5, Tryd.ntmps5
  go_wp2_with fail
  refine (check_any HL.out _ size _ _ [l] HS.out rfl HV.out).mono ?_
  rintro e w1 ⟨ev, rfl, hres, hm⟩
  have hm2 : Ext w w1 := ((Mods.refl _ w).alloc _).trans hm
  rcases hres with ⟨hc, rfl⟩ | ⟨hc, b, q, rfl, hE⟩
  · have HC := Lib.hid hc
    clear hc
    go_wp2_with (go_at_call 19; refine (most_any _ l size _ (hl0.out.mods (Mods.ext hm2)) (rightFrom_mem l _ (code_one size l HC.out).2.2)).mono ?_; rintro e w' ⟨rfl, hm3⟩)
    go_ret2
    exact ⟨_, _, rfl, by rw [if_pos HC.out], .inl ⟨HC.out, rfl⟩, hm2.trans hm3⟩
  · have HC := Lib.hid hc
    have HE := Lib.hid hE
    clear hc hE
    go_wp2
    go_ret2
    exact ⟨_, _, rfl, by rw [if_neg HC.out], .inr ⟨HC.out, _, _, rfl, HE.out⟩, hm2⟩

set_option maxHeartbeats 400000 in
theorem Least_any {F : Nat → Prop} {ad : Nat → Addr} {w : World} (hL : Env F ad w) (lv : Value) (l : List PairB) (size : Int) (hl : Sl F w 2 encP lv l) :
    Calls Tryd.prog 6 #[lv, .int .i64 size] w (NumPost F ad w (codeN size [l]) (leastN l size)) := by
  have HS : Hid (Sl F (w.alloc (.cells #[lv] 22)) 1 encV (.slice (some ⟨w.heap.size, 0, none⟩) 1 1) [lv]) := Lib.hid (Sl.one (by exact heap_at rfl) hL.new)
  have HL := Lib.hid (hL.mods ((Mods.refl F w).alloc (.cells #[lv] 22)))
  have HV := Lib.hid (listsOf F (hl.mods ((Mods.refl F w).alloc (.cells #[lv] 22))))
  have hl0 := Lib.hid hl
  have hx : ∃ a c, lv = .slice a l.length c ∧ l.length ≤ 140737488355328 := by obtain ⟨a, c, h, _, _, h3, _⟩ := hl; exact ⟨a, c, h, h3⟩
  obtain ⟨a, c, rfl, hlen⟩ := hx
  clear hl hL
  go_enter Tryd.func6, Tryd.ntmps6
  go_wp2_with fail
  refine (check_any HL.out _ size _ _ [l] HS.out rfl HV.out).mono ?_
  rintro e w1 ⟨ev, rfl, hres, hm⟩
  have hm2 : Ext w w1 := ((Mods.refl _ w).alloc _).trans hm
  rcases hres with ⟨hc, rfl⟩ | ⟨hc, b, q, rfl, hE⟩
  · obtain ⟨s1, s2, hr⟩ := code_one size l hc
    have hmem := rightFrom_mem l _ hr
    obtain ⟨b1, b2⟩ := weighs_le l hmem
    obtain ⟨b3, b4⟩ := chains_le size l hmem
    have HC := Lib.hid hc
    have HM := Lib.hid hmem
    clear hc hr hmem
    have HT : Hid (∀ w2, Ext w w2 → Calls Tryd.prog 20 #[.slice a l.length c, .func (.func 21) #[] #[]] w2 fun e w' => e = .returned (.int .i64 (sumBy weighP l)) ∧ Ext w2 w') :=
      Lib.hid (fun w2 m => total0_any weighP _ l 21 w2 (hl0.out.mods (Mods.ext m)) (fun x hx => by have := weighP_le x (HM.out x hx).1; omega) (fun _ _ => by kernel_rfl) (fun x hx w1 _ => weigh_any x.1 x.2 w1 (HM.out x hx).1 (HM.out x hx).2))
    have HCh : Hid (∀ w2, Ext w w2 → Calls Tryd.prog 22 #[.slice a l.length c, .int .i64 size] w2 fun e w' => e = .returned (.int .i64 (sumBy (chainP size) l)) ∧ Ext w2 w') :=
      Lib.hid (fun w2 m => chains_any _ l size w2 (hl0.out.mods (Mods.ext m)) HM.out)
    have hdiv : 0 ≤ (sumBy weighP l + (size - 26) - 1) / (size - 26) := Int.ediv_nonneg (by omega) (by omega)
    have hdiv2 : (sumBy weighP l + (size - 26) - 1) / (size - 26) ≤ sumBy weighP l + (size - 26) - 1 := Int.ediv_le_self _ (by omega)
    have e1 : size - 24 - 2 = size - 26 := by omega
    go_wp2
    go_region_with (first
      | (go_at_call 20; refine (HT.out _ (by first | exact hm2.drew | exact (hm2.drew.trans hm4))).mono ?_; rintro e w' ⟨rfl, hm3⟩)
      | (go_at_call 22; refine (HCh.out _ (by first | exact hm2.drew | exact (hm2.drew.trans hm3))).mono ?_; rintro e w' ⟨rfl, hm4⟩))
    all_goals
      go_wp2
      go_ret2
      exact ⟨_, _, rfl, by rw [if_pos HC.out]; exact IntWalk.i64_in _ ⟨by omega, by omega⟩, .inl ⟨HC.out, rfl⟩, (hm2.drew.trans hm3).trans hm4⟩
  · have HC := Lib.hid hc
    have HE := Lib.hid hE
    clear hc hE
    go_wp2
    go_ret2
    exact ⟨_, _, rfl, by rw [if_neg HC.out], .inr ⟨HC.out, _, _, rfl, HE.out⟩, hm2⟩

theorem depth_big {n : Int} (w : World) (h0 : 0 ≤ n) (h1 : n ≤ 9223372036854775807) :
    Calls Tryd.prog 9 #[.int .i64 n] w fun e w' => e = .returned (.int .i64 (if n < 1 then 0 else (Lib.bitLen n.toNat : Int))) ∧ w = w' := by
  by_cases h : n < 1
  · go_enter Tryd.func9, Tryd.ntmps9
    go_wp2
    go_ret
    exact ⟨rfl, rfl⟩
  · go_enter Tryd.func9, Tryd.ntmps9
    go_wp2_with (go_at_call 25; refine (Tryd.bits_Len n _ (by omega) (by omega)).mono ?_; rintro e w' ⟨rfl, rfl⟩)
    go_ret
    exact ⟨rfl, rfl⟩

def longFrom (m : Int) : List PairB → Int
  | [] => m
  | p :: r => longFrom (max m (p.2.size : Int)) r

def worstN (depth value size : Int) : Int :=
  if depth < 0 ∨ 16 < depth ∨ value < 0 ∨ 4096 < value ∨ size < 256 ∨ 1024 < size then 0
  else 2 * max depth 1 + 1 + (if 24 < value then needN value size else 0)

set_option maxHeartbeats 400000 in
theorem longest_any {F : Nat → Prop} (lv : Value) (l : List PairB) (w : World) (hl : Sl F w 2 encP lv l) (hr : ∀ p ∈ l, p.1.size ≤ 32 ∧ p.2.size ≤ 4096) :
    Calls Tryd.prog 42 #[lv] w fun e w' => e = .returned (.int .i64 (longFrom 0 l)) ∧ Ext w w' := by
  obtain ⟨a, cap, rfl, h1, h2, h3, h4⟩ := hl
  unfold maxLen at h2
  have HR := Lib.hid hr
  clear hr
  go_enter Tryd.func42, Tryd.ntmps42
  go_wp2
  go_loopg [3, 8] l.length (fun n t i wr => ∃ k : Nat, ∃ z : Int, k + n = l.length ∧ i = .int .i64 k ∧ t = .int .i64 z ∧ Hid (longFrom z (l.drop k) = longFrom 0 l) ∧ Ext w wr)
  case atStart => exact ⟨0, 0, by omega, rfl, rfl, Lib.hid rfl, Mods.refl _ _⟩
  case round =>
    obtain ⟨k, z, hk, rfl, rfl, HZ, hm⟩ := hrel
    by_cases hlt : k < l.length
    · obtain ⟨b, off, rfl, hb, hF, hc⟩ := Sl.atE h4 hm k hlt
      have c0 := hc 0 _ rfl
      have c1 := hc 1 _ rfl
      simp only [Nat.add_zero] at c0
      clear hc h4
      have hz := HZ.out
      rw [List.drop_eq_getElem_cons hlt] at hz
      have HZ2 : Hid (longFrom (max z (l[k].2.size : Int)) (l.drop (k + 1)) = longFrom 0 l) := Lib.hid hz
      clear hz HZ
      go_wp2
      all_goals
        go_roundg (gk - 1)
        case measure => omega
        case rel => exact ⟨k + 1, _, by omega, by go_num, rfl, by first | exact HZ2 | (refine Lib.hid ?_; rw [← HZ2.out]; congr 1; omega), hm.alloc _⟩
    · have hke : k = l.length := by omega
      have hzz : Hid (z = longFrom 0 l) := Lib.hid (by have := HZ.out; rw [hke, List.drop_length] at this; exact this)
      clear HZ hke h4
      go_wp2
      go_ret
      exact ⟨ret_int hzz.out, hm⟩

theorem needN_small (n size : Int) (h : n ≤ 4096) (h1 : 1 ≤ n) (h2 : 256 ≤ size) (h3 : size ≤ 1024) : 1 ≤ needN n size ∧ needN n size ≤ 4096 := by
  have := (needN_le n size h).2
  unfold needN at this ⊢
  rw [if_neg (by omega)] at this ⊢
  have h1 : 0 ≤ (n - 1) / (size - 28) := Int.ediv_nonneg (by omega) (by omega)
  omega

theorem Worst_any (value size : Int) (w : World) (h0 : 0 ≤ value) (h1 : value ≤ 4096) (h2 : 256 ≤ size) (h3 : size ≤ 1024) :
    Calls Tryd.prog 41 #[.int .i64 16, .int .i64 value, .int .i64 size] w fun e w' => e = .returned (.int .i64 (worstN 16 value size)) ∧ w = w' := by
  have hb := needN_le value size h1
  obtain ⟨hb1, hb2⟩ := hb
  by_cases hv : 24 < value
  · have HR : Hid (33 + needN value size = worstN 16 value size) := Lib.hid (by unfold worstN; rw [if_neg (by omega), if_pos hv, show max (16 : Int) 1 = 16 from rfl]; omega)
    go_enter Tryd.func41, Tryd.ntmps41
    go_wp2_with (go_at_call 35; refine (need_any _ _ _ (by omega) (by omega)).mono ?_; rintro e w' ⟨rfl, rfl⟩)
    go_ret
    exact ⟨ret_int HR.out, rfl⟩
  · have HR : Hid (33 = worstN 16 value size) := Lib.hid (by unfold worstN; rw [if_neg (by omega), if_neg hv, show max (16 : Int) 1 = 16 from rfl]; omega)
    go_enter Tryd.func41, Tryd.ntmps41
    go_wp2
    go_ret
    exact ⟨ret_int HR.out, rfl⟩

def batchN (was is : List PairB) (size : Int) : Int := 6 + mostN was size + mostN is size + worstN 16 (longFrom 0 is) size

theorem longFrom_le (l : List PairB) (hr : ∀ p ∈ l, p.1.size ≤ 32 ∧ p.2.size ≤ 4096) : ∀ m : Int, 0 ≤ m → m ≤ 4096 → 0 ≤ longFrom m l ∧ longFrom m l ≤ 4096 := by
  induction l with
  | nil => intro m h0 h1; exact ⟨h0, h1⟩
  | cons p r ih =>
    intro m h0 h1
    have := hr p (by simp)
    exact ih (fun q hq => hr q (by simp [hq])) _ (by omega) (by omega)
theorem mostN_le (l : List PairB) (size : Int) (hr : ∀ p ∈ l, p.1.size ≤ 32 ∧ p.2.size ≤ 4096) : 0 ≤ mostN l size ∧ mostN l size ≤ 4098 * l.length := by
  have h := chains_le size l hr
  unfold mostN
  split
  · rename_i e; subst e; simp
  · rename_i e
    have : 1 ≤ l.length := by cases l; exact absurd rfl e; simp
    omega
theorem worstN_le (value size : Int) (h1 : value ≤ 4096) : 0 ≤ worstN 16 value size ∧ worstN 16 value size ≤ 5000 := by
  have h := needN_le value size h1
  unfold worstN
  split
  · omega
  · rw [show max (16 : Int) 1 = 16 from rfl]; split <;> omega

set_option maxHeartbeats 400000 in
theorem batch_any {F : Nat → Prop} (wv iv : Value) (was is : List PairB) (size : Int) (w : World) (hw : Sl F w 2 encP wv was) (hi : Sl F w 2 encP iv is)
    (hrw : ∀ p ∈ was, p.1.size ≤ 32 ∧ p.2.size ≤ 4096) (hri : ∀ p ∈ is, p.1.size ≤ 32 ∧ p.2.size ≤ 4096) (h2 : 256 ≤ size) (h3 : size ≤ 1024) :
    Calls Tryd.prog 27 #[wv, iv, .int .i64 size] w fun e w' => e = .returned (.int .i64 (batchN was is size)) ∧ Ext w w' := by
  obtain ⟨b1, b2⟩ := mostN_le was size hrw
  obtain ⟨b3, b4⟩ := mostN_le is size hri
  obtain ⟨b5, b6⟩ := longFrom_le is hri 0 (by omega) (by omega)
  obtain ⟨b7, b8⟩ := worstN_le (longFrom 0 is) size b6
  have hx : ∃ a c, wv = .slice a was.length c ∧ was.length ≤ 140737488355328 := by obtain ⟨a, c, h, _, _, h3, _⟩ := hw; exact ⟨a, c, h, h3⟩
  have hy : ∃ a c, iv = .slice a is.length c ∧ is.length ≤ 140737488355328 := by obtain ⟨a, c, h, _, _, h3, _⟩ := hi; exact ⟨a, c, h, h3⟩
  have HW := Lib.hid hw
  have HI := Lib.hid hi
  obtain ⟨a, c, rfl, hl1⟩ := hx
  obtain ⟨a', c', rfl, hl2⟩ := hy
  have HRW := Lib.hid hrw
  have HRI := Lib.hid hri
  clear hw hi hrw hri
  go_enter Tryd.func27, Tryd.ntmps27
  go_wp2_with fail
  refine (most_any _ was size _ HW.out HRW.out).mono ?_
  rintro e w1 ⟨rfl, hm1⟩
  go_wp2_with fail
  refine (most_any _ is size _ (HI.out.mods (Mods.ext hm1)) HRI.out).mono ?_
  rintro e w2 ⟨rfl, hm2⟩
  have hm12 := hm1.trans hm2
  go_wp2_with fail
  refine (longest_any _ is _ (HI.out.mods (Mods.ext hm12)) HRI.out).mono ?_
  rintro e w3 ⟨rfl, hm3⟩
  have hm13 := hm12.trans hm3
  go_wp2_with fail
  refine (Worst_any _ size _ b5 b6 h2 h3).mono ?_
  rintro e w4 ⟨rfl, rfl⟩
  go_wp2
  go_ret
  exact ⟨rfl, hm13⟩
end Go.Proofs.YtcjlbpmhkoidhaaDoor
