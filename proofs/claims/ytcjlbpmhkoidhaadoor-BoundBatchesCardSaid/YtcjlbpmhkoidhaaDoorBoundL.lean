/- The statements of layer 19 over the contracts: code, tells, awake, BoundMosts. -/
import Derived.Test.YtcjlbpmhkoidhaaDoorBoundR3
namespace Go.Proofs.YtcjlbpmhkoidhaaDoor
open Go.RowKit

theorem Depth_any {n : Int} (w : World) (h0 : 0 ≤ n) (h1 : n ≤ 9223372036854775807) :
    Calls Tryd.prog 9 #[.int .i64 n] w fun e w' => e = .returned (.int .i64 (depthN n)) ∧ w = w' := depth_big w h0 h1

theorem tells19_any {F : Nat → Prop} {ad : Nat → Addr} {w : World} (hL : Env F ad w) (c : Nat) (ev : Value) (h : IsRes F ad w c ev) :
    Calls Tryd.prog 8 #[ev, .int .i64 c] w fun e w' => e = .returned (.bool true) ∧ w = w' := by
  rcases h with ⟨rfl, rfl⟩ | ⟨hc, b, l, rfl, hE⟩
  · go_enter Tryd.func8, Tryd.ntmps8
    go_wp2_with (go_at_call 24; refine (code_nil _).mono ?_; rintro e w' ⟨rfl, rfl⟩)
    go_ret
    exact ⟨rfl, rfl⟩
  · have hz : ((c : Int) == 0) = false := by simp; omega
    have HL := Lib.hid hL
    have HE := Lib.hid hE
    clear hL hE hc
    go_enter Tryd.func8, Tryd.ntmps8
    go_wp2_with (go_at_call 24; refine (code_any HL.out _ l c HE.out).mono ?_; rintro e w' ⟨rfl, rfl⟩)
    go_ret
    exact ⟨ret_bool (by simp), rfl⟩

theorem code19_any {F : Nat → Prop} (av bv : Value) (a b : List PairB) (size : Int) (w : World) (ha : Sl F w 2 encP av a) (hb : Sl F w 2 encP bv b) :
    Calls Tryd.prog 7 #[.int .i64 size, av, bv] w fun e w' => e = .returned (.int .i64 (codeN size [a, b])) ∧ Ext w w' := by
  have hx : ∃ x n c, av = .slice x n c := by obtain ⟨x, c, h, _⟩ := ha; exact ⟨x, _, c, h⟩
  have hy : ∃ x n c, bv = .slice x n c := by obtain ⟨x, c, h, _⟩ := hb; exact ⟨x, _, c, h⟩
  have HA := Lib.hid ha
  have HB := Lib.hid hb
  obtain ⟨x, n, c, rfl⟩ := hx
  obtain ⟨x', n', c', rfl⟩ := hy
  clear ha hb
  by_cases hs : size < 256
  · have HC : Hid (codeN size [a, b] = 2) := Lib.hid (by unfold codeN; rw [if_pos (by omega)])
    go_enter Tryd.func7, Tryd.ntmps7
    go_wp2
    go_ret
    exact ⟨ret_int (by rw [HC.out]; rfl), Mods.refl _ _⟩
  · by_cases hs2 : 1024 < size
    · have HC : Hid (codeN size [a, b] = 2) := Lib.hid (by unfold codeN; rw [if_pos (by omega)])
      go_enter Tryd.func7, Tryd.ntmps7
      go_wp2
      go_ret
      exact ⟨ret_int (by rw [HC.out]; rfl), Mods.refl _ _⟩
    · have HC : Hid (codeN size [a, b] = if rightP a && rightP b then 0 else 1) := Lib.hid (by unfold codeN; rw [if_neg (by omega)]; simp)
      go_enter Tryd.func7, Tryd.ntmps7
      go_wp2_with fail
      refine (Right19_any _ a _ HA.out).mono ?_
      rintro e w1 ⟨rfl, hm1⟩
      cases hra : rightP a
      · go_wp2
        go_ret
        exact ⟨ret_int (by rw [HC.out, hra]; rfl), hm1⟩
      · go_wp2_with fail
        refine (Right19_any _ b _ (HB.out.mods (Mods.ext hm1))).mono ?_
        rintro e w2 ⟨rfl, hm2⟩
        cases hrb : rightP b
        all_goals
          go_wp2
          go_ret
          exact ⟨ret_int (by rw [HC.out, hra, hrb]; rfl), hm1.trans hm2⟩

def pairsA : List PairB := [(⟨#[97]⟩, ⟨#[]⟩), (⟨#[98]⟩, ⟨#[]⟩)]
theorem toListA (l : List UInt8) : (⟨l.toArray⟩ : ByteArray).toList = l := by rw [ByteArray.toList_eq]
theorem rightA : rightP pairsA = true := by
  have h0 : (⟨#[]⟩ : ByteArray).toList = [] := toListA []
  have h1 : (⟨#[97]⟩ : ByteArray).toList = [97] := toListA [97]
  have h2 : (⟨#[98]⟩ : ByteArray).toList = [98] := toListA [98]
  unfold pairsA rightP
  simp only [rightFrom, leS, h0, h1, h2]
  decide
theorem codeA : codeN 256 [pairsA] = 0 := by unfold codeN; simp [rightA]
theorem mostA : mostN pairsA 256 = 3 := by decide
theorem depthA : depthN 5 = 3 := by decide
theorem code_nil2 (size : Int) (l : List PairB) : codeN size [l, []] = codeN size [l] := by
  unfold codeN; simp [rightP, rightFrom]
theorem least_le_most (l : List PairB) (size : Int) (hr : ∀ p ∈ l, p.1.size ≤ 32 ∧ p.2.size ≤ 4096) (h1 : 256 ≤ size) : leastN l size ≤ mostN l size := by
  have hw := weighs_le l hr
  unfold leastN mostN
  by_cases he : l = []
  · subst he
    simp only [if_true, sumBy]
    rw [Int.ediv_eq_zero_of_lt (by omega) (by omega)]; omega
  · rw [if_neg he]
    have hn : 1 ≤ l.length := by cases l; exact absurd rfl he; simp
    have : (sumBy weighP l + (size - 26) - 1) / (size - 26) ≤ l.length := by
      apply Int.le_of_lt_add_one
      apply Int.ediv_lt_of_lt_mul (by omega)
      have : (l.length : Int) * 230 ≤ (l.length : Int) * (size - 26) := Int.mul_le_mul_of_nonneg_left (by omega) (by omega)
      rw [Int.add_mul]
      omega
    omega

set_option maxHeartbeats 400000 in
theorem awake19_any {F : Nat → Prop} {ad : Nat → Addr} {w : World} (hL : Env F ad w) : Calls Tryd.prog 11 #[] w fun e w' => e = .returned (.bool true) ∧ Ext w w' := by
  have m0 : Mods F w (w.alloc (.cells #[.string ⟨#[97]⟩, .string ⟨#[]⟩, .string ⟨#[98]⟩, .string ⟨#[]⟩] 49)) := (Mods.refl F w).alloc _
  have HS : Hid (Sl F (w.alloc (.cells #[.string ⟨#[97]⟩, .string ⟨#[]⟩, .string ⟨#[98]⟩, .string ⟨#[]⟩] 49)) 2 encP (.slice (some ⟨w.heap.size, 0, none⟩) 2 2) pairsA) :=
    Lib.hid (Sl.two (by exact heap_at rfl) rfl hL.new)
  have HL := Lib.hid (hL.mods m0)
  clear hL m0
  go_enter Tryd.func11, Tryd.ntmps11
  go_wp2_with fail
  refine (Most_any HL.out _ pairsA 256 HS.out).mono ?_
  rintro e w1 ⟨v, ev, rfl, hv, hres, hm⟩
  rw [codeA, if_pos rfl, mostA] at hv
  subst hv
  rw [codeA] at hres
  rcases hres with ⟨_, rfl⟩ | ⟨h, _⟩
  · go_wp2_with fail
    refine (Depth_any _ (by omega) (by omega)).mono ?_
    rw [depthA]
    rintro e w' ⟨rfl, rfl⟩
    go_wp2
    go_ret
    exact ⟨rfl, ((Mods.refl _ w).alloc _).trans hm⟩
  · exact absurd rfl h

set_option maxHeartbeats 1000000 in
theorem BoundMosts_any {F : Nat → Prop} {ad : Nat → Addr} {w : World} (hL : Env F ad w) (lv : Value) (l : List PairB) (size : Int) (hl : Sl F w 2 encP lv l) :
    Calls Tryd.prog 3 #[lv, .int .i64 size] w fun e w' => e = .returned (.bool true) ∧ Ext w w' := by
  have hx : ∃ a c, lv = .slice a l.length c ∧ l.length ≤ 140737488355328 := by obtain ⟨a, c, h, _, _, h3, _⟩ := hl; exact ⟨a, c, h, h3⟩
  have HS := Lib.hid hl
  have HL := Lib.hid hL
  obtain ⟨a, c, rfl, hlen⟩ := hx
  clear hl hL
  obtain ⟨C, hC⟩ : ∃ C, C = codeN size [l] := ⟨_, rfl⟩
  have HC := Lib.hid hC
  clear hC
  go_enter Tryd.func3, Tryd.ntmps3
  go_wp2_with fail
  refine (Most_any HL.out _ l size HS.out).mono ?_
  rw [← HC.out]
  rintro e w1 ⟨n, ev, rfl, hn, hr1, hm1⟩
  have HN := Lib.hid hn
  have HR1 := Lib.hid hr1
  clear hn hr1
  go_wp2_with fail
  refine (Least_any (HL.out.mods (Mods.ext hm1)) _ l size (HS.out.mods (Mods.ext hm1))).mono ?_
  rw [← HC.out]
  rintro e w2 ⟨m, fv, rfl, hn, hr1, hm2⟩
  have hm12 : Ext w w2 := hm1.trans hm2
  have HM := Lib.hid hn
  have HR2 := Lib.hid hr1
  clear hn hr1
  go_wp2_with fail
  refine (code19_any _ _ l [] size _ (HS.out.mods (Mods.ext hm12)) (Sl.nil F _ _ _)).mono ?_
  rw [code_nil2, ← HC.out]
  rintro e w3 ⟨rfl, hm3⟩
  have hm13 : Ext w w3 := hm12.trans hm3
  have HLx := Lib.hid (HL.out.mods (Mods.ext hm13))
  go_wp2_with fail
  refine (tells19_any HLx.out C ev (HR1.out.mods (Mods.ext (hm2.trans hm3)))).mono ?_
  rintro e w' ⟨rfl, rfl⟩
  go_wp2_with fail
  refine (tells19_any HLx.out C fv (HR2.out.mods (Mods.ext hm3))).mono ?_
  rintro e w' ⟨rfl, rfl⟩
  go_wp2_with fail
  refine (Depth_any _ (by omega) (by omega)).mono ?_
  rintro e w' ⟨rfl, rfl⟩
  go_wp2_with fail
  refine (Depth19_any _ _ (by omega) (by omega)).mono ?_
  rintro e w' ⟨rfl, rfl⟩
  by_cases hc : C = 0
  · have h0 : codeN size [l] = 0 := by rw [← HC.out, hc]
    obtain ⟨s1, s2, hr⟩ := code_one size l h0
    have HRM := Lib.hid (rightFrom_mem l _ hr)
    have hn : n = mostN l size := by rw [HN.out, if_pos hc]
    have hm' : m = leastN l size := by rw [HM.out, if_pos hc]
    have hlm : leastN l size ≤ mostN l size := least_le_most l size HRM.out s1
    subst hc
    clear HN HM HC h0 hr
    subst hn hm'
    go_wp2_with fail
    refine (Most19_any _ l size _ (HS.out.mods (Mods.ext hm13)) HRM.out).mono ?_
    rintro e w4 ⟨rfl, hm4⟩
    go_wp2_with fail
    refine (Least19_any _ l size _ (HS.out.mods (Mods.ext (hm13.trans hm4))) HRM.out s1 s2).mono ?_
    rintro e w5 ⟨rfl, hm5⟩
    go_wp2_with fail
    refine (awake19_any (HL.out.mods (Mods.ext ((hm13.trans hm4).trans hm5)))).mono ?_
    rintro e w6 ⟨rfl, hm6⟩
    go_wp2
    go_ret
    exact ⟨rfl, ((hm13.trans hm4).trans hm5).trans hm6⟩
  · have hn : n = 0 := by rw [HN.out, if_neg hc]
    have hm' : m = 0 := by rw [HM.out, if_neg hc]
    have hz : ((C : Int) != 0) = true := by simp; omega
    have HCn := Lib.hid hc
    clear HN HM hc
    subst hn hm'
    go_wp2_with fail
    refine (awake19_any HLx.out).mono ?_
    rintro e w6 ⟨rfl, hm6⟩
    go_wp2
    go_ret
    exact ⟨rfl, hm13.trans hm6⟩
end Go.Proofs.YtcjlbpmhkoidhaaDoor
