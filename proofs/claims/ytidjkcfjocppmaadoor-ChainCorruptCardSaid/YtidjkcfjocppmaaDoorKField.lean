/- field.right, Put, Take: numbers as bytes. -/
import Derived.Test.YtidjkcfjocppmaaDoorKBase1
import Derived.Test.YtidjkcfjocppmaaDoorKBase2
import Derived.Test.YtidjkcfjocppmaaDoorKPlain1
import Derived.Laws.BitsAllLaws
namespace Go.Proofs.YtidjkcfjocppmaaDoor
open Go.RowKit

theorem Tryd.mkB : (Tryd.prog.info? 5).map (fun i => (i.zero, i.size, i.bytes)) = some (some (.int .u8 0), 1, 1) := by kernel_rfl
theorem Tryd.elB : ElT Tryd.prog 50 5 (.int .u8 0) 1 1 := ⟨Tryd.underlying50, Tryd.mkB, rfl, by decide, by decide⟩
def isW (n : Int) : Bool := n == 1 || n == 2 || n == 4 || n == 8
theorem fright_any (n : Int) (w : World) : Calls Tryd.prog 80 #[.int .i64 n] w fun e w' => e = .returned (.bool (isW n)) ∧ w = w' := by
  by_cases h1 : n = 1
  · subst h1; go_enter Tryd.func80, Tryd.ntmps80; go_wp2; go_ret; exact ⟨rfl, rfl⟩
  · by_cases h2 : n = 2
    · subst h2; go_enter Tryd.func80, Tryd.ntmps80; go_wp2; go_ret; exact ⟨rfl, rfl⟩
    · by_cases h3 : n = 4
      · subst h3; go_enter Tryd.func80, Tryd.ntmps80; go_wp2; go_ret; exact ⟨rfl, rfl⟩
      · by_cases h4 : n = 8
        · subst h4; go_enter Tryd.func80, Tryd.ntmps80; go_wp2; go_ret; exact ⟨rfl, rfl⟩
        · have H : Hid (isW n = false) := Lib.hid (by simp [isW, h1, h2, h3, h4])
          go_enter Tryd.func80, Tryd.ntmps80; go_wp2; go_ret; exact ⟨ret_bool H.out.symm, rfl⟩

theorem Put_any {F : Nat → Prop} {ad : Nat → Addr} {w : World} (hL : Env F ad w) (bv : Value) (l : List UInt8) (hb : Sl F w 1 encB bv l) (n W : Nat) (hw : W = 1 ∨ W = 2 ∨ W = 4 ∨ W = 8) (hn : n < 256 ^ W) (hlen : l.length ≤ 100000) :
    Calls Tryd.prog 61 #[bv, .int .u64 (n : Int), .int .i64 (W : Int)] w fun e w' => ∃ a c, e = .returned (.tuple #[.slice a (l.length + W) c, .nilIface]) ∧
      Own F w' w.heap.size 5 1 encB (.slice a (l.length + W) c) (l ++ leB W n) ∧ Ext w w' := by
  have HB := Lib.hid hb
  have HF : Hid (Bd F w) := Lib.hid (fun k hk => hL.lt k hk)
  obtain ⟨a, cap, rfl, h1, h2, h3, h4⟩ := hb
  unfold maxLen at h2
  clear h4 hL
  rcases hw with rfl | rfl | rfl | rfl
  · have hr : isW ((1 : Nat) : Int) = true := rfl
    replace hn : n < 256 := hn
    go_enter Tryd.func61, Tryd.ntmps61
    go_wp2_with fail
    refine (fright_any _ _).mono ?_
    rintro e w1 ⟨rfl, rfl⟩
    go_wp2_with (at_builtin; refine wpl_app Tryd.elB encB_ok rfl _ _ rfl w.heap.size _ _ [] l rfl rfl (Own.empty HF.out _ _ _ (fun _ => rfl)) (HB.out.mods ((Mods.refl _ w).alloc _)) (by simp; omega) (by simp) (HF.out.mods ((Mods.refl F w).alloc _)) ?_; simp only [List.length_nil, Nat.zero_add, List.nil_append]; intro a1 c1 w1 hO hm1)
    have HO := Lib.hid hO
    have HM : Hid (Ext w w1) := Lib.hid (Mods.past ((Mods.refl _ w).alloc _) hm1)
    clear hO hm1
    go_wp2_with fail
    go_loopg [8, 1, 29] 1 (fun m v8 v1 v29 wr => ∃ (k q : Nat) (acc : List UInt8) (a : Option Addr) (c : Nat), k + m = 1 ∧ v8 = .slice a acc.length c ∧ v1 = .int .u64 q ∧ v29 = .int .i64 k ∧ acc.length = l.length + k ∧ q < 18446744073709551616 ∧
      Hid (l ++ leB 1 n = acc ++ leB m q) ∧ Hid (Own F wr w.heap.size 5 1 encB (.slice a acc.length c) acc) ∧ Hid (Ext w wr))
    case atStart => exact ⟨0, n, l, a1, c1, rfl, rfl, rfl, rfl, rfl, by omega, Lib.hid rfl, HO, HM⟩
    case round =>
      obtain ⟨k, q, acc, a2, c2, hk, rfl, rfl, rfl, hlen2, hq, HQ, HO2, HM2⟩ := hrel
      by_cases hlt : k < 1
      · obtain ⟨m, rfl⟩ : ∃ m, gk = m + 1 := ⟨gk - 1, by omega⟩
        have HF2 : Hid (Bd F wr) := Lib.hid (HF.out.mods HM2.out)
        have hz2 := HM2.out.size
        go_wp2_with (at_builtin; refine wpl_app Tryd.elB encB_ok rfl _ _ rfl w.heap.size _ _ acc [UInt8.ofNat q] rfl rfl (HO2.out.ext ((Mods.refl _ wr).alloc _)) (byte_lit HF2.out q _) (by simp; omega) (by simp; omega) (HF2.out.mods ((Mods.refl F wr).alloc _)) ?_; simp only [List.length_cons, List.length_nil, Nat.zero_add]; intro a3 c3 w3 hO3 hm3)
        have HO3 := Lib.hid hO3
        have HM3 : Hid (Ext w w3) := Lib.hid (Mods.past (HM2.out.alloc _) hm3)
        clear hO3 hm3
        go_wp2_with fail
        go_roundg m
        case measure => omega
        case rel => exact ⟨k + 1, q / 256, acc ++ [UInt8.ofNat q], a3, c3, by omega, by simp [hlen2], by go_num, by go_num, by simp; omega, by omega, Lib.hid (by rw [HQ.out]; simp [leB]), by simpa using HO3, HM3⟩
      · obtain rfl : gk = 0 := by omega
        have he : acc = l ++ leB 1 n := by have := HQ.out; simpa [leB] using this.symm
        have HO3 := HO2.out
        rw [he] at HO3
        have HO4 := Lib.hid HO3
        have hl4 : acc.length = l.length + 1 := by omega
        clear HO3 he
        go_wp2_with fail
        go_ret2
        have e : Value.slice a2 (l.length + 1) c2 = .slice a2 acc.length c2 := by rw [hl4]
        exact ⟨a2, c2, by rw [e]; rfl, by simpa [leB] using HO4.out, HM2.out⟩
  · have hr : isW ((2 : Nat) : Int) = true := rfl
    replace hn : n < 65536 := hn
    go_enter Tryd.func61, Tryd.ntmps61
    go_wp2_with fail
    refine (fright_any _ _).mono ?_
    rintro e w1 ⟨rfl, rfl⟩
    go_wp2_with (at_builtin; refine wpl_app Tryd.elB encB_ok rfl _ _ rfl w.heap.size _ _ [] l rfl rfl (Own.empty HF.out _ _ _ (fun _ => rfl)) (HB.out.mods ((Mods.refl _ w).alloc _)) (by simp; omega) (by simp) (HF.out.mods ((Mods.refl F w).alloc _)) ?_; simp only [List.length_nil, Nat.zero_add, List.nil_append]; intro a1 c1 w1 hO hm1)
    have HO := Lib.hid hO
    have HM : Hid (Ext w w1) := Lib.hid (Mods.past ((Mods.refl _ w).alloc _) hm1)
    clear hO hm1
    go_wp2_with fail
    go_loopg [8, 1, 29] 2 (fun m v8 v1 v29 wr => ∃ (k q : Nat) (acc : List UInt8) (a : Option Addr) (c : Nat), k + m = 2 ∧ v8 = .slice a acc.length c ∧ v1 = .int .u64 q ∧ v29 = .int .i64 k ∧ acc.length = l.length + k ∧ q < 18446744073709551616 ∧
      Hid (l ++ leB 2 n = acc ++ leB m q) ∧ Hid (Own F wr w.heap.size 5 1 encB (.slice a acc.length c) acc) ∧ Hid (Ext w wr))
    case atStart => exact ⟨0, n, l, a1, c1, rfl, rfl, rfl, rfl, rfl, by omega, Lib.hid rfl, HO, HM⟩
    case round =>
      obtain ⟨k, q, acc, a2, c2, hk, rfl, rfl, rfl, hlen2, hq, HQ, HO2, HM2⟩ := hrel
      by_cases hlt : k < 2
      · obtain ⟨m, rfl⟩ : ∃ m, gk = m + 1 := ⟨gk - 1, by omega⟩
        have HF2 : Hid (Bd F wr) := Lib.hid (HF.out.mods HM2.out)
        have hz2 := HM2.out.size
        go_wp2_with (at_builtin; refine wpl_app Tryd.elB encB_ok rfl _ _ rfl w.heap.size _ _ acc [UInt8.ofNat q] rfl rfl (HO2.out.ext ((Mods.refl _ wr).alloc _)) (byte_lit HF2.out q _) (by simp; omega) (by simp; omega) (HF2.out.mods ((Mods.refl F wr).alloc _)) ?_; simp only [List.length_cons, List.length_nil, Nat.zero_add]; intro a3 c3 w3 hO3 hm3)
        have HO3 := Lib.hid hO3
        have HM3 : Hid (Ext w w3) := Lib.hid (Mods.past (HM2.out.alloc _) hm3)
        clear hO3 hm3
        go_wp2_with fail
        go_roundg m
        case measure => omega
        case rel => exact ⟨k + 1, q / 256, acc ++ [UInt8.ofNat q], a3, c3, by omega, by simp [hlen2], by go_num, by go_num, by simp; omega, by omega, Lib.hid (by rw [HQ.out]; simp [leB]), by simpa using HO3, HM3⟩
      · obtain rfl : gk = 0 := by omega
        have he : acc = l ++ leB 2 n := by have := HQ.out; simpa [leB] using this.symm
        have HO3 := HO2.out
        rw [he] at HO3
        have HO4 := Lib.hid HO3
        have hl4 : acc.length = l.length + 2 := by omega
        clear HO3 he
        go_wp2_with fail
        go_ret2
        have e : Value.slice a2 (l.length + 2) c2 = .slice a2 acc.length c2 := by rw [hl4]
        exact ⟨a2, c2, by rw [e]; rfl, by simpa [leB] using HO4.out, HM2.out⟩
  · have hr : isW ((4 : Nat) : Int) = true := rfl
    replace hn : n < 4294967296 := hn
    go_enter Tryd.func61, Tryd.ntmps61
    go_wp2_with fail
    refine (fright_any _ _).mono ?_
    rintro e w1 ⟨rfl, rfl⟩
    go_wp2_with (at_builtin; refine wpl_app Tryd.elB encB_ok rfl _ _ rfl w.heap.size _ _ [] l rfl rfl (Own.empty HF.out _ _ _ (fun _ => rfl)) (HB.out.mods ((Mods.refl _ w).alloc _)) (by simp; omega) (by simp) (HF.out.mods ((Mods.refl F w).alloc _)) ?_; simp only [List.length_nil, Nat.zero_add, List.nil_append]; intro a1 c1 w1 hO hm1)
    have HO := Lib.hid hO
    have HM : Hid (Ext w w1) := Lib.hid (Mods.past ((Mods.refl _ w).alloc _) hm1)
    clear hO hm1
    go_wp2_with fail
    go_loopg [8, 1, 29] 4 (fun m v8 v1 v29 wr => ∃ (k q : Nat) (acc : List UInt8) (a : Option Addr) (c : Nat), k + m = 4 ∧ v8 = .slice a acc.length c ∧ v1 = .int .u64 q ∧ v29 = .int .i64 k ∧ acc.length = l.length + k ∧ q < 18446744073709551616 ∧
      Hid (l ++ leB 4 n = acc ++ leB m q) ∧ Hid (Own F wr w.heap.size 5 1 encB (.slice a acc.length c) acc) ∧ Hid (Ext w wr))
    case atStart => exact ⟨0, n, l, a1, c1, rfl, rfl, rfl, rfl, rfl, by omega, Lib.hid rfl, HO, HM⟩
    case round =>
      obtain ⟨k, q, acc, a2, c2, hk, rfl, rfl, rfl, hlen2, hq, HQ, HO2, HM2⟩ := hrel
      by_cases hlt : k < 4
      · obtain ⟨m, rfl⟩ : ∃ m, gk = m + 1 := ⟨gk - 1, by omega⟩
        have HF2 : Hid (Bd F wr) := Lib.hid (HF.out.mods HM2.out)
        have hz2 := HM2.out.size
        go_wp2_with (at_builtin; refine wpl_app Tryd.elB encB_ok rfl _ _ rfl w.heap.size _ _ acc [UInt8.ofNat q] rfl rfl (HO2.out.ext ((Mods.refl _ wr).alloc _)) (byte_lit HF2.out q _) (by simp; omega) (by simp; omega) (HF2.out.mods ((Mods.refl F wr).alloc _)) ?_; simp only [List.length_cons, List.length_nil, Nat.zero_add]; intro a3 c3 w3 hO3 hm3)
        have HO3 := Lib.hid hO3
        have HM3 : Hid (Ext w w3) := Lib.hid (Mods.past (HM2.out.alloc _) hm3)
        clear hO3 hm3
        go_wp2_with fail
        go_roundg m
        case measure => omega
        case rel => exact ⟨k + 1, q / 256, acc ++ [UInt8.ofNat q], a3, c3, by omega, by simp [hlen2], by go_num, by go_num, by simp; omega, by omega, Lib.hid (by rw [HQ.out]; simp [leB]), by simpa using HO3, HM3⟩
      · obtain rfl : gk = 0 := by omega
        have he : acc = l ++ leB 4 n := by have := HQ.out; simpa [leB] using this.symm
        have HO3 := HO2.out
        rw [he] at HO3
        have HO4 := Lib.hid HO3
        have hl4 : acc.length = l.length + 4 := by omega
        clear HO3 he
        go_wp2_with fail
        go_ret2
        have e : Value.slice a2 (l.length + 4) c2 = .slice a2 acc.length c2 := by rw [hl4]
        exact ⟨a2, c2, by rw [e]; rfl, by simpa [leB] using HO4.out, HM2.out⟩
  · have hr : isW ((8 : Nat) : Int) = true := rfl
    replace hn : n < 18446744073709551616 := hn
    go_enter Tryd.func61, Tryd.ntmps61
    go_wp2_with fail
    refine (fright_any _ _).mono ?_
    rintro e w1 ⟨rfl, rfl⟩
    go_wp2_with (at_builtin; refine wpl_app Tryd.elB encB_ok rfl _ _ rfl w.heap.size _ _ [] l rfl rfl (Own.empty HF.out _ _ _ (fun _ => rfl)) (HB.out.mods ((Mods.refl _ w).alloc _)) (by simp; omega) (by simp) (HF.out.mods ((Mods.refl F w).alloc _)) ?_; simp only [List.length_nil, Nat.zero_add, List.nil_append]; intro a1 c1 w1 hO hm1)
    have HO := Lib.hid hO
    have HM : Hid (Ext w w1) := Lib.hid (Mods.past ((Mods.refl _ w).alloc _) hm1)
    clear hO hm1
    go_wp2_with fail
    go_loopg [8, 1, 29] 8 (fun m v8 v1 v29 wr => ∃ (k q : Nat) (acc : List UInt8) (a : Option Addr) (c : Nat), k + m = 8 ∧ v8 = .slice a acc.length c ∧ v1 = .int .u64 q ∧ v29 = .int .i64 k ∧ acc.length = l.length + k ∧ q < 18446744073709551616 ∧
      Hid (l ++ leB 8 n = acc ++ leB m q) ∧ Hid (Own F wr w.heap.size 5 1 encB (.slice a acc.length c) acc) ∧ Hid (Ext w wr))
    case atStart => exact ⟨0, n, l, a1, c1, rfl, rfl, rfl, rfl, rfl, by omega, Lib.hid rfl, HO, HM⟩
    case round =>
      obtain ⟨k, q, acc, a2, c2, hk, rfl, rfl, rfl, hlen2, hq, HQ, HO2, HM2⟩ := hrel
      by_cases hlt : k < 8
      · obtain ⟨m, rfl⟩ : ∃ m, gk = m + 1 := ⟨gk - 1, by omega⟩
        have HF2 : Hid (Bd F wr) := Lib.hid (HF.out.mods HM2.out)
        have hz2 := HM2.out.size
        go_wp2_with (at_builtin; refine wpl_app Tryd.elB encB_ok rfl _ _ rfl w.heap.size _ _ acc [UInt8.ofNat q] rfl rfl (HO2.out.ext ((Mods.refl _ wr).alloc _)) (byte_lit HF2.out q _) (by simp; omega) (by simp; omega) (HF2.out.mods ((Mods.refl F wr).alloc _)) ?_; simp only [List.length_cons, List.length_nil, Nat.zero_add]; intro a3 c3 w3 hO3 hm3)
        have HO3 := Lib.hid hO3
        have HM3 : Hid (Ext w w3) := Lib.hid (Mods.past (HM2.out.alloc _) hm3)
        clear hO3 hm3
        go_wp2_with fail
        go_roundg m
        case measure => omega
        case rel => exact ⟨k + 1, q / 256, acc ++ [UInt8.ofNat q], a3, c3, by omega, by simp [hlen2], by go_num, by go_num, by simp; omega, by omega, Lib.hid (by rw [HQ.out]; simp [leB]), by simpa using HO3, HM3⟩
      · obtain rfl : gk = 0 := by omega
        have he : acc = l ++ leB 8 n := by have := HQ.out; simpa [leB] using this.symm
        have HO3 := HO2.out
        rw [he] at HO3
        have HO4 := Lib.hid HO3
        have hl4 : acc.length = l.length + 8 := by omega
        clear HO3 he
        go_wp2_with fail
        go_ret2
        have e : Value.slice a2 (l.length + 8) c2 = .slice a2 acc.length c2 := by rw [hl4]
        exact ⟨a2, c2, by rw [e]; rfl, by simpa [leB] using HO4.out, HM2.out⟩

/-- field.Take: the number, or why there is none. -/
def takeF (l : List UInt8) (at_ : Int) (W : Nat) : Nat × Option Err :=
  if at_ < 0 ∨ (l.length : Int) < at_ then (0, some ([-1], 2)) else if (l.length : Int) - at_ < W then (0, some ([-1], 1)) else (ofLe ((l.drop at_.toNat).take W), none)
theorem Take_any {F : Nat → Prop} {ad : Nat → Addr} {w : World} (hL : Env F ad w) (bv : Value) (l : List UInt8) (hb : Sl F w 1 encB bv l) (p : Int) (W : Nat) (hw : W = 1 ∨ W = 2 ∨ W = 4 ∨ W = 8) :
    Calls Tryd.prog 65 #[bv, .int .i64 p, .int .i64 (W : Int)] w fun e w' => ∃ ev, e = .returned (.tuple #[.int .u64 ((takeF l p W).1 : Nat), ev]) ∧ ErrR F ad w' ev (takeF l p W).2 ∧ Ext w w' := by
  have HL := Lib.hid hL
  have g1 := hL.c1
  have g2 := hL.c2
  obtain ⟨a, cap, rfl, h1, h2, h3, h4⟩ := hb
  unfold maxLen at h2
  clear hL
  have hr : isW (W : Int) = true := by rcases hw with rfl | rfl | rfl | rfl <;> rfl
  have HW := Lib.hid hw
  have hW : W ≤ 8 := by omega
  have hW1 : 1 ≤ W := by omega
  clear hw
  by_cases hc : p < 0 ∨ (l.length : Int) < p
  · have HT : Hid (takeF l p W = (0, some ([-1], 2))) := Lib.hid (by unfold takeF; rw [if_pos hc])
    by_cases h0 : p < 0
    · clear hc
      go_enter Tryd.func65, Tryd.ntmps65
      go_wp2_with fail
      refine (fright_any _ _).mono ?_
      rintro e w1 ⟨rfl, rfl⟩
      go_wp2_with fail
      refine (new_any HL.out _ _ _ 2 (.sent 2 (by decide) (by decide))).mono ?_
      rintro e w1 ⟨f, rfl, hE, hm⟩
      have HE := Lib.hid hE
      clear hE
      go_wp2
      go_ret2
      exact ⟨_, by rw [HT.out]; rfl, by rw [HT.out]; exact ⟨f, rfl, HE.out⟩, hm⟩
    · have h5 : (l.length : Int) < p := by omega
      clear hc
      go_enter Tryd.func65, Tryd.ntmps65
      go_wp2_with fail
      refine (fright_any _ _).mono ?_
      rintro e w1 ⟨rfl, rfl⟩
      go_wp2_with fail
      refine (new_any HL.out _ _ _ 2 (.sent 2 (by decide) (by decide))).mono ?_
      rintro e w1 ⟨f, rfl, hE, hm⟩
      have HE := Lib.hid hE
      clear hE
      go_wp2
      go_ret2
      exact ⟨_, by rw [HT.out]; rfl, by rw [HT.out]; exact ⟨f, rfl, HE.out⟩, hm⟩
  · have hp : 0 ≤ p := by omega
    obtain ⟨q, rfl⟩ : ∃ q : Nat, p = q := ⟨p.toNat, by omega⟩
    have hq : q ≤ l.length := by omega
    by_cases hc2 : (l.length : Int) - q < W
    · have HT : Hid (takeF l q W = (0, some ([-1], 1))) := Lib.hid (by unfold takeF; rw [if_neg hc, if_pos hc2])
      clear hc
      go_enter Tryd.func65, Tryd.ntmps65
      go_wp2_with fail
      refine (fright_any _ _).mono ?_
      rintro e w1 ⟨rfl, rfl⟩
      go_wp2_with fail
      refine (new_any HL.out _ _ _ 1 (.sent 1 (by decide) (by decide))).mono ?_
      rintro e w1 ⟨f, rfl, hE, hm⟩
      have HE := Lib.hid hE
      clear hE
      go_wp2
      go_ret2
      exact ⟨_, by rw [HT.out]; rfl, by rw [HT.out]; exact ⟨f, rfl, HE.out⟩, hm⟩
    · have HT : Hid (takeF l q W = (ofLe ((l.drop q).take W), none)) := Lib.hid (by unfold takeF; rw [if_neg hc, if_neg hc2, Int.toNat_natCast])
      have hqW : q + W ≤ l.length := by omega
      clear hc hc2
      go_enter Tryd.func65, Tryd.ntmps65
      go_wp2_with fail
      refine (fright_any _ _).mono ?_
      rintro e w1 ⟨rfl, rfl⟩
      go_wp2_with fail
      go_loopg [8, 9] W (fun m n i wr => ∃ x : Nat, wr = w ∧ m ≤ W ∧ i = .int .i64 ((m : Int) - 1) ∧ n = .int .u64 (x : Int) ∧ Hid (x = ofLe ((l.drop (q + m)).take (W - m))))
      case atStart => exact ⟨0, rfl, by omega, rfl, rfl, Lib.hid (by simp [ofLe])⟩
      case round =>
        obtain ⟨x, rfl, hmW, rfl, rfl, HX⟩ := hrel
        by_cases h0 : 0 < gk
        · obtain ⟨m, rfl⟩ : ∃ m, gk = m + 1 := ⟨gk - 1, by omega⟩
          have hlt : q + m < l.length := by omega
          obtain ⟨b, off, rfl, hb, hF, hc⟩ := Sl.atE h4 (Mods.refl _ _) (q + m) hlt
          obtain ⟨y, hy⟩ : ∃ y, y = l[q + m] := ⟨_, rfl⟩
          have hc0 := hc 0 (.int .u8 (y.toNat : Int)) (by rw [hy]; rfl)
          simp only [Nat.mul_one, Nat.add_zero] at hc0
          have hy8 : y.toNat < 256 := y.toNat_lt
          have hS := ofLe_take_step l q m W y (by omega) (by rw [hy]; simp [hlt])
          have hx56 : x < 72057594037927936 := by
            have h1 := ofLe_take_lt l q (m + 1) W
            rw [← HX.out] at h1
            exact Nat.lt_of_lt_of_le h1 (Nat.pow_le_pow_right (n := 256) (by decide) (show W - (m + 1) ≤ 7 by omega))
          rw [← HX.out] at hS
          have HS := Lib.hid hS
          have hor : bits .or .u64 ((x : Int) * 256) (y.toNat : Int) = ((x * 256 + y.toNat : Nat) : Int) := by
            have h1 := u64_or_nat (x * 256) y.toNat (by omega) (by omega)
            rw [nat_join 8 (x * 256) y.toNat (by omega) (by omega)] at h1
            simpa using h1
          have hm1 : (((m + 1 : Nat) : Int) - 1) = (m : Int) := by omega
          rw [hm1]
          clear hc hy hS h4 hm1
          go_wp2_with fail
          go_roundg m
          case measure => omega
          case rel => exact ⟨x * 256 + y.toNat, rfl, by omega, by go_num, rfl, Lib.hid HS.out.symm⟩
        · obtain rfl : gk = 0 := by omega
          have hm1 : (((0 : Nat) : Int) - 1) = -1 := by omega
          rw [hm1]
          clear hm1 h0 hmW h4
          have HX2 : Hid (x = ofLe ((l.drop q).take W)) := HX
          go_wp2_with fail
          go_ret2
          exact ⟨_, by rw [HT.out, ← HX2.out]; rfl, by rw [HT.out]; rfl, Mods.refl _ _⟩
end Go.Proofs.YtidjkcfjocppmaaDoor
