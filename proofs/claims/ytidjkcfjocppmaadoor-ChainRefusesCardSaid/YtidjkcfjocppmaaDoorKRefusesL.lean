/- ChainRefuses, walked. -/
import Derived.Test.YtidjkcfjocppmaaDoorKRefuse
import Derived.IntWalk
namespace Go.Proofs.YtidjkcfjocppmaaDoor
open Go.RowKit
attribute [local go_sem ↓] Go.wp_at_zero Go.wp_at_succ
section
variable {ad : Nat → Addr} {w0 w w' : World} {B c s : Nat} {P P' F F' : Nat → Prop} {G G' : GA} {l l' : List Nat}
/-- a fault of a code; where numbers are out of range: of that one. -/
def Bad (F : Nat → Prop) (ad : Nat → Addr) (w : World) (n : Int) (f : Nat) : Prop := ∃ (el : List Int) (k : Nat), ErrC F ad w (faultV f) el k ∧ (n < 25 ∨ 4096 < n → k = 2)
theorem Bad.mods {n : Int} {f : Nat} (h : Bad F ad w n f) (m : Mods F w w') : Bad F ad w' n f := by
  obtain ⟨el, k, h1, h2⟩ := h
  exact ⟨el, k, h1.mods m, h2⟩
theorem Bad.nxt {n : Int} {f : Nat} (h : Bad F ad w n f) (x : Nxt P P' F F' ad w w') (hPF : ∀ k, P k → F k) : Bad F' ad w' n f := by
  obtain ⟨el, k, h1, h2⟩ := h
  exact ⟨el, k, x.errc hPF h1, h2⟩
def LsBad3 (ad : Nat → Addr) (w0 : World) (B c s : Nat) (P F : Nat → Prop) (w : World) (G : GA) (l : List Nat) (n : Int) (v : Value) (e : Ending) (w' : World) : Prop :=
  ∃ P' F' f, e = .returned (.tuple #[v, faultV f]) ∧ LS ad w0 w' B c s P' F' G l ∧ Bad F' ad w' n f ∧ Nxt P P' F F' ad w w'
def LsBad1 (ad : Nat → Addr) (w0 : World) (B c s : Nat) (P F : Nat → Prop) (w : World) (G : GA) (l : List Nat) (n : Int) (e : Ending) (w' : World) : Prop :=
  ∃ P' F' f, e = .returned (faultV f) ∧ LS ad w0 w' B c s P' F' G l ∧ Bad F' ad w' n f ∧ Nxt P P' F F' ad w w'
theorem lsListBad {b : Nat} (h : LS ad w0 w B c s P F (G0 b) l) (id n : Int) (hid : -9223372036854775808 ≤ id ∧ id ≤ 9223372036854775807) :
    Calls Tryd.prog 22 #[pgV c s 7, .int .i64 id, .int .i64 n] w (LsBad3 ad w0 B c s P F w (G0 b) l n (.slice none 0 0)) := by
  obtain ⟨er, he, hk⟩ := new_err b id n
  refine (chList_any h.env h.sub h.pg 7 id n hid (fun _ _ => new_ok b id n _)).mono ?_
  rintro e w' ⟨P', F', hG, hN, ⟨h1, _⟩ | ⟨er', f, h1, rfl, h2⟩⟩
  · rw [he] at h1; cases h1
  · rw [he] at h1; injection h1 with h1; subst h1
    exact ⟨P', F', f, rfl, h.step hN hG, ⟨_, _, h2, hk⟩, hN⟩
theorem lsReadBad {b : Nat} (h : LS ad w0 w B c s P F (G0 b) l) (id n : Int) (hid : -9223372036854775808 ≤ id ∧ id ≤ 9223372036854775807) :
    Calls Tryd.prog 18 #[pgV c s 7, .int .i64 id, .int .i64 n] w (LsBad3 ad w0 B c s P F w (G0 b) l n (.string ⟨#[]⟩)) := by
  obtain ⟨er, he, hk⟩ := new_err b id n
  refine (chRead_any h.env h.sub h.pg 7 id n hid (fun _ _ => new_ok b id n _)).mono ?_
  rintro e w' ⟨P', F', hG, hN, ⟨h1, _⟩ | ⟨er', f, h1, rfl, h2⟩⟩
  · rw [he] at h1; cases h1
  · rw [he] at h1; injection h1 with h1; subst h1
    exact ⟨P', F', f, rfl, h.step hN hG, ⟨_, _, h2, hk⟩, hN⟩
theorem lsEraseBad {b : Nat} (h : LS ad w0 w B c s P F (G0 b) l) (id n : Int) (hid : -9223372036854775808 ≤ id ∧ id ≤ 9223372036854775807) :
    Calls Tryd.prog 17 #[pgV c s 7, .int .i64 id, .int .i64 n] w (LsBad1 ad w0 B c s P F w (G0 b) l n) := by
  obtain ⟨er, he, hk⟩ := new_err b id n
  refine (chErase_any h.env h.sub h.pg 7 id n hid (fun _ _ => new_ok b id n _) [] (fun h1 => by rw [he] at h1; cases h1)).mono ?_
  rintro e w' ⟨P', F', G', l', hG, hN, ⟨h1, _⟩ | ⟨er', f, h1, rfl, rfl, rfl, h2⟩⟩
  · rw [he] at h1; cases h1
  · rw [he] at h1; injection h1 with h1; subst h1
    exact ⟨P', F', f, rfl, h.step hN hG, ⟨_, _, h2, hk⟩, hN⟩
end
set_option maxRecDepth 100000 in
set_option maxHeartbeats 4000000 in
theorem ChainRefuses_any {ad : Nat → Addr} {w : World} (hL : Env NoB ad w) (hfu : Full ad) (n id : Int) (hid : -9223372036854775808 ≤ id ∧ id ≤ 9223372036854775807) :
    Calls Tryd.prog 6 #[.int .i64 n, .int .i64 id] w fun e w' => e = .returned (.bool true) ∧ Ext w w' := by
  have HL := Lib.hid hL
  have HFU := Lib.hid hfu
  have HID := Lib.hid hid
  obtain ⟨r, hr⟩ : ∃ r : Nat, n % 18446744073709551616 % 25 = (r : Int) := ⟨(n % 18446744073709551616 % 25).toNat, by omega⟩
  have hr25 : r < 25 := by omega
  have ht : (IntKind.u64.wrap n).tmod 25 = (r : Int) := by
    rw [← hr, Int.tmod_eq_emod_of_nonneg (by show 0 ≤ n % _; omega)]
    rfl
  have HT := Lib.hid ht
  clear hL hfu hid ht hr
  go_enter Tryd.func6, Tryd.ntmps6
  go_wp2_with fail
  refine (pager_any HL.out 8 (by omega) (by omega)).mono ?_
  rintro e w1 ⟨c, s, P, F, rfl, hG, hN⟩
  have hS := LS.start hG hN
  have HS := Lib.hid hS
  have t0 := hS.c0
  have t1 := hS.c1
  have t2 := hS.c2
  clear hG hN hS
  unfold pgV
  go_wp2_with fail
  refine (lsListBad HS.out id n HID.out).mono ?_
  rintro e w2 ⟨P2, F2, f2, rfl, hS2, hB2, _⟩
  have HS2 := Lib.hid hS2
  have HB2 := Lib.hid hB2
  clear hS2 hB2 t0 t1 t2
  have t0 := HS2.out.c0
  have t1 := HS2.out.c1
  have t2 := HS2.out.c2
  go_wp2_with fail
  refine (lsReadBad HS2.out id n HID.out).mono ?_
  rintro e w3 ⟨P3, F3, f3, rfl, hS3, hB3, hN3⟩
  have HS3 := Lib.hid hS3
  have HB3 := Lib.hid hB3
  have HB23 := Lib.hid (HB2.out.nxt hN3 HS2.out.sub)
  clear hS3 hB3 hN3 t0 t1 t2
  have t0 := HS3.out.c0
  have t1 := HS3.out.c1
  have t2 := HS3.out.c2
  go_wp2_with fail
  refine (lsEraseBad HS3.out id n HID.out).mono ?_
  rintro e w4 ⟨P4, F4, f4, rfl, hS4, hB4, hN4⟩
  have HS4 := Lib.hid hS4
  obtain ⟨el4, k4, hE4, hk4⟩ := hB4
  obtain ⟨el3, k3, hE3, hk3⟩ := HB3.out.nxt hN4 HS3.out.sub
  obtain ⟨el2, k2, hE2, hk2⟩ := HB23.out.nxt hN4 HS3.out.sub
  have HE2 := Lib.hid hE2
  have HE3 := Lib.hid hE3
  have HE4 := Lib.hid hE4
  have HK2 := Lib.hid hk2
  have HK3 := Lib.hid hk3
  have HK4 := Lib.hid hk4
  clear hS4 hE4 hE3 hE2 hN4 hk2 hk3 hk4 t0 t1 t2
  have t0 := HS4.out.c0
  have t1 := HS4.out.c1
  have t2 := HS4.out.c2
  by_cases hn : n < 25 ∨ 4096 < n
  · have e2 : k2 = 2 := HK2.out hn
    have e3 : k3 = 2 := HK3.out hn
    have e4 : k4 = 2 := HK4.out hn
    rcases hn with hn | hn
    · have hd : decide (n < 25) = true := decide_eq_true hn
      go_wp2_with fail
      refine (tellsC HS4.out.env HFU.out HE2.out 2 (by omega) e2).mono ?_
      rintro e w5 ⟨rfl, rfl⟩
      go_wp2_with fail
      refine (tellsC HS4.out.env HFU.out HE3.out 2 (by omega) e3).mono ?_
      rintro e w5 ⟨rfl, rfl⟩
      go_wp2_with fail
      refine (tellsC HS4.out.env HFU.out HE4.out 2 (by omega) e4).mono ?_
      rintro e w5 ⟨rfl, rfl⟩
      have u1 := HT.out
      have u2 : IntKind.i64.wrap (r : Int) = (r : Int) := IntWalk.i64_in _ (by omega)
      have HD := Lib.hid HS4.out.drew
      go_wp2_with fail
      go_region_held3 (fun w' => w'.cell? ⟨w1.heap.size, 0, none⟩ = some (.pointer (some ⟨c, 0, none⟩)) ∧ w'.cell? ⟨w1.heap.size, 1, none⟩ = some (.pointer (some ⟨s, 0, none⟩)) ∧ w'.cell? ⟨w1.heap.size, 2, none⟩ = some (.int .u64 7))
        (first | (with_reducible exact ⟨x0, x1, x2⟩) | (with_reducible exact ⟨z0, z1, z2⟩) | go_keep)
        (first
          | (go_at_call 15; refine (tx_any r (by omega) 1 _).mono ?_; rintro e w5 ⟨rfl, hm5⟩; have x0 := cellE hm5 t0; have x1 := cellE hm5 t1; have x2 := cellE hm5 t2)
          | (go_at_call 14; refine (chWrite_bad (F := F4) (ad := ad) _ _ 7 2 (tx r 1) (ChkBad.range (HD.out.ext hm5).env 7 _ (by rw [tx_size]; omega))).mono ?_; rintro e w6 ⟨f6, rfl, hE6, hm6⟩; have z0 := cellE hm6 x0; have z1 := cellE hm6 x1; have z2 := cellE hm6 x2))
      have HS6 := Lib.hid ((HD.out.ext hm5).ext hm6)
      have HE6 := Lib.hid hE6
      clear z0 z1 z2 x0 x1 x2 hm5 hm6 hE6 t0 t1 t2 u1 u2
      have t0 := HS6.out.c0
      go_wp2_with fail
      refine (tx_any 30 (by omega) 1 _).mono ?_
      rintro e w7 ⟨rfl, hm7⟩
      have HS7 := Lib.hid (HS6.out.ext hm7)
      have HE67 := Lib.hid (HE6.out.mods hm7.ext)
      clear hm7 t0
      have t0 := HS7.out.c0
      go_wp2_with fail
      refine (chWrite_bad (F := F4) (ad := ad) none none 0 7 (tx 30 1) (ChkBad.nil HS7.out.env none (.inl rfl) 0 _)).mono ?_
      rintro e w8 ⟨f8, rfl, hE8, hm8⟩
      have HS8 := Lib.hid (HS7.out.ext hm8)
      have HE8 := Lib.hid hE8
      have HE68 := Lib.hid (HE67.out.mods hm8.ext)
      clear hm8 hE8 t0
      have t0 := HS8.out.c0
      go_wp2_with fail
      refine (chRead_bad (F := F4) (ad := ad) (some ⟨c, 0, none⟩) none 0 7 id 30 (ChkBad.nil HS8.out.env (some ⟨c, 0, none⟩) (.inr ⟨c, rfl⟩) 0 _)).mono ?_
      rintro e w9 ⟨f9, rfl, hE9, hm9⟩
      have HS9 := Lib.hid (HS8.out.ext hm9)
      have HE9 := Lib.hid hE9
      have HE89 := Lib.hid (HE8.out.mods hm9.ext)
      have HE69 := Lib.hid (HE68.out.mods hm9.ext)
      clear hm9 hE9 t0
      go_wp2_with fail
      refine (tellsC HS9.out.env HFU.out HE69.out 2 (by omega) rfl).mono ?_
      rintro e w10 ⟨rfl, rfl⟩
      go_wp2_with fail
      refine (tellsC HS9.out.env HFU.out HE89.out 7 (by omega) rfl).mono ?_
      rintro e w10 ⟨rfl, rfl⟩
      go_wp2_with fail
      refine (tellsC HS9.out.env HFU.out HE9.out 7 (by omega) rfl).mono ?_
      rintro e w10 ⟨rfl, rfl⟩
      go_wp2_with fail
      refine (awake_any (HL.out.mods HS9.out.ext0)).mono ?_
      rintro e w11 ⟨rfl, hm11⟩
      have HM11 := Lib.hid (HS9.out.ext0.trans hm11)
      clear hm11
      go_wp2_with fail
      go_ret
      exact ⟨rfl, HM11.out⟩
    · have hd : ¬ n < 25 := by omega
      go_wp2_with fail
      refine (tellsC HS4.out.env HFU.out HE2.out 2 (by omega) e2).mono ?_
      rintro e w5 ⟨rfl, rfl⟩
      go_wp2_with fail
      refine (tellsC HS4.out.env HFU.out HE3.out 2 (by omega) e3).mono ?_
      rintro e w5 ⟨rfl, rfl⟩
      go_wp2_with fail
      refine (tellsC HS4.out.env HFU.out HE4.out 2 (by omega) e4).mono ?_
      rintro e w5 ⟨rfl, rfl⟩
      have u1 := HT.out
      have u2 : IntKind.i64.wrap (r : Int) = (r : Int) := IntWalk.i64_in _ (by omega)
      have HD := Lib.hid HS4.out.drew
      go_wp2_with fail
      go_region_held3 (fun w' => w'.cell? ⟨w1.heap.size, 0, none⟩ = some (.pointer (some ⟨c, 0, none⟩)) ∧ w'.cell? ⟨w1.heap.size, 1, none⟩ = some (.pointer (some ⟨s, 0, none⟩)) ∧ w'.cell? ⟨w1.heap.size, 2, none⟩ = some (.int .u64 7))
        (first | (with_reducible exact ⟨x0, x1, x2⟩) | (with_reducible exact ⟨z0, z1, z2⟩) | go_keep)
        (first
          | (go_at_call 15; refine (tx_any r (by omega) 1 _).mono ?_; rintro e w5 ⟨rfl, hm5⟩; have x0 := cellE hm5 t0; have x1 := cellE hm5 t1; have x2 := cellE hm5 t2)
          | (go_at_call 14; refine (chWrite_bad (F := F4) (ad := ad) _ _ 7 2 (tx r 1) (ChkBad.range (HD.out.ext hm5).env 7 _ (by rw [tx_size]; omega))).mono ?_; rintro e w6 ⟨f6, rfl, hE6, hm6⟩; have z0 := cellE hm6 x0; have z1 := cellE hm6 x1; have z2 := cellE hm6 x2))
      have HS6 := Lib.hid ((HD.out.ext hm5).ext hm6)
      have HE6 := Lib.hid hE6
      clear z0 z1 z2 x0 x1 x2 hm5 hm6 hE6 t0 t1 t2 u1 u2
      have t0 := HS6.out.c0
      go_wp2_with fail
      refine (tx_any 30 (by omega) 1 _).mono ?_
      rintro e w7 ⟨rfl, hm7⟩
      have HS7 := Lib.hid (HS6.out.ext hm7)
      have HE67 := Lib.hid (HE6.out.mods hm7.ext)
      clear hm7 t0
      have t0 := HS7.out.c0
      go_wp2_with fail
      refine (chWrite_bad (F := F4) (ad := ad) none none 0 7 (tx 30 1) (ChkBad.nil HS7.out.env none (.inl rfl) 0 _)).mono ?_
      rintro e w8 ⟨f8, rfl, hE8, hm8⟩
      have HS8 := Lib.hid (HS7.out.ext hm8)
      have HE8 := Lib.hid hE8
      have HE68 := Lib.hid (HE67.out.mods hm8.ext)
      clear hm8 hE8 t0
      have t0 := HS8.out.c0
      go_wp2_with fail
      refine (chRead_bad (F := F4) (ad := ad) (some ⟨c, 0, none⟩) none 0 7 id 30 (ChkBad.nil HS8.out.env (some ⟨c, 0, none⟩) (.inr ⟨c, rfl⟩) 0 _)).mono ?_
      rintro e w9 ⟨f9, rfl, hE9, hm9⟩
      have HS9 := Lib.hid (HS8.out.ext hm9)
      have HE9 := Lib.hid hE9
      have HE89 := Lib.hid (HE8.out.mods hm9.ext)
      have HE69 := Lib.hid (HE68.out.mods hm9.ext)
      clear hm9 hE9 t0
      go_wp2_with fail
      refine (tellsC HS9.out.env HFU.out HE69.out 2 (by omega) rfl).mono ?_
      rintro e w10 ⟨rfl, rfl⟩
      go_wp2_with fail
      refine (tellsC HS9.out.env HFU.out HE89.out 7 (by omega) rfl).mono ?_
      rintro e w10 ⟨rfl, rfl⟩
      go_wp2_with fail
      refine (tellsC HS9.out.env HFU.out HE9.out 7 (by omega) rfl).mono ?_
      rintro e w10 ⟨rfl, rfl⟩
      go_wp2_with fail
      refine (awake_any (HL.out.mods HS9.out.ext0)).mono ?_
      rintro e w11 ⟨rfl, hm11⟩
      have HM11 := Lib.hid (HS9.out.ext0.trans hm11)
      clear hm11
      go_wp2_with fail
      go_ret
      exact ⟨rfl, HM11.out⟩
  · have hd : ¬ n < 25 := by omega
    have hd2 : ¬ 4096 < n := by omega
    clear hn
    · skip
      have u1 := HT.out
      have u2 : IntKind.i64.wrap (r : Int) = (r : Int) := IntWalk.i64_in _ (by omega)
      have HD := Lib.hid HS4.out.drew
      go_wp2_with fail
      go_region_held3 (fun w' => w'.cell? ⟨w1.heap.size, 0, none⟩ = some (.pointer (some ⟨c, 0, none⟩)) ∧ w'.cell? ⟨w1.heap.size, 1, none⟩ = some (.pointer (some ⟨s, 0, none⟩)) ∧ w'.cell? ⟨w1.heap.size, 2, none⟩ = some (.int .u64 7))
        (first | (with_reducible exact ⟨x0, x1, x2⟩) | (with_reducible exact ⟨z0, z1, z2⟩) | go_keep)
        (first
          | (go_at_call 15; refine (tx_any r (by omega) 1 _).mono ?_; rintro e w5 ⟨rfl, hm5⟩; have x0 := cellE hm5 t0; have x1 := cellE hm5 t1; have x2 := cellE hm5 t2)
          | (go_at_call 14; refine (chWrite_bad (F := F4) (ad := ad) _ _ 7 2 (tx r 1) (ChkBad.range (HD.out.ext hm5).env 7 _ (by rw [tx_size]; omega))).mono ?_; rintro e w6 ⟨f6, rfl, hE6, hm6⟩; have z0 := cellE hm6 x0; have z1 := cellE hm6 x1; have z2 := cellE hm6 x2))
      have HS6 := Lib.hid ((HD.out.ext hm5).ext hm6)
      have HE6 := Lib.hid hE6
      clear z0 z1 z2 x0 x1 x2 hm5 hm6 hE6 t0 t1 t2 u1 u2
      have t0 := HS6.out.c0
      go_wp2_with fail
      refine (tx_any 30 (by omega) 1 _).mono ?_
      rintro e w7 ⟨rfl, hm7⟩
      have HS7 := Lib.hid (HS6.out.ext hm7)
      have HE67 := Lib.hid (HE6.out.mods hm7.ext)
      clear hm7 t0
      have t0 := HS7.out.c0
      go_wp2_with fail
      refine (chWrite_bad (F := F4) (ad := ad) none none 0 7 (tx 30 1) (ChkBad.nil HS7.out.env none (.inl rfl) 0 _)).mono ?_
      rintro e w8 ⟨f8, rfl, hE8, hm8⟩
      have HS8 := Lib.hid (HS7.out.ext hm8)
      have HE8 := Lib.hid hE8
      have HE68 := Lib.hid (HE67.out.mods hm8.ext)
      clear hm8 hE8 t0
      have t0 := HS8.out.c0
      go_wp2_with fail
      refine (chRead_bad (F := F4) (ad := ad) (some ⟨c, 0, none⟩) none 0 7 id 30 (ChkBad.nil HS8.out.env (some ⟨c, 0, none⟩) (.inr ⟨c, rfl⟩) 0 _)).mono ?_
      rintro e w9 ⟨f9, rfl, hE9, hm9⟩
      have HS9 := Lib.hid (HS8.out.ext hm9)
      have HE9 := Lib.hid hE9
      have HE89 := Lib.hid (HE8.out.mods hm9.ext)
      have HE69 := Lib.hid (HE68.out.mods hm9.ext)
      clear hm9 hE9 t0
      go_wp2_with fail
      refine (tellsC HS9.out.env HFU.out HE69.out 2 (by omega) rfl).mono ?_
      rintro e w10 ⟨rfl, rfl⟩
      go_wp2_with fail
      refine (tellsC HS9.out.env HFU.out HE89.out 7 (by omega) rfl).mono ?_
      rintro e w10 ⟨rfl, rfl⟩
      go_wp2_with fail
      refine (tellsC HS9.out.env HFU.out HE9.out 7 (by omega) rfl).mono ?_
      rintro e w10 ⟨rfl, rfl⟩
      go_wp2_with fail
      refine (awake_any (HL.out.mods HS9.out.ext0)).mono ?_
      rintro e w11 ⟨rfl, hm11⟩
      have HM11 := Lib.hid (HS9.out.ext0.trans hm11)
      clear hm11
      go_wp2_with fail
      go_ret
      exact ⟨rfl, HM11.out⟩
end Go.Proofs.YtidjkcfjocppmaaDoor
