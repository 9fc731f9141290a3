/- LookupRefuses, walked. -/
import Derived.Test.YtmgfneijcfjlfaaGreatDoorK34
import Derived.Test.YtmgfneijcfjlfaaGreatDoorK38
namespace Go.Proofs.YtmgfneijcfjlfaaGreatDoor
open Go.RowKit
attribute [local go_sem ↓] Go.wp_at_zero Go.wp_at_succ
theorem get_out {G : GA} {id : Int} (h : id < 0 ∨ (G.blocks : Int) ≤ id) : G.load id = .inr (-1 :: [pgOf id], 2) := by
  unfold GA.load GA.get GA.check
  rw [if_pos h]
theorem load_none {n i : Nat} (hi : i < n) : ∃ l, (G0 n).load (i : Int) = .inr (l, 5) := by
  obtain ⟨_, l, h⟩ := puts_none (n := n) (ps := []) hi (fun p hp => by simp at hp)
  have h2 : (G0 n).get (i : Int) = .inr (l, 5) := h
  refine ⟨-1 :: l, ?_⟩
  unfold GA.load
  rw [h2]
set_option maxRecDepth 100000 in
set_option maxHeartbeats 4000000 in
theorem LookupRefuses_any {ad : Nat → Addr} {w : World} (hL : Env NoB ad w) (hfu : Full ad) (id : Int) (key : ByteArray) :
    Calls Tryz.prog 6 #[.int .i64 id, .string key] w fun e w' => e = .returned (.bool true) ∧ Ext w w' := by
  have HL := Lib.hid hL
  have HFU := Lib.hid hfu
  have HPC := Lib.hid (pagerOf_any hL [] (.slice none 0 0) (Sl.nil _ _ _ _) (fun x hx => by simp at hx) ⟨List.Pairwise.nil, fun p hp => by simp at hp, fun p hp => by simp at hp, fun p hp => by simp at hp⟩ (by simp))
  clear hL hfu
  go_enter Tryz.func6, Tryz.ntmps6
  go_wp2_with fail
  refine (HPC.out).mono ?_
  rintro e w1 ⟨c, s, P, F, rfl, hG, hN⟩
  have hS := (LG.startZ (gen := 5) hG hN 5 rfl)
  have t1 := hS.c1
  have m1 : Ext (w1.alloc (.cells #[.pointer (some ⟨c, 0, none⟩), .pointer (some ⟨s, 0, none⟩), .int .u64 5] 34)) ((w1.alloc (.cells #[.pointer (some ⟨c, 0, none⟩), .pointer (some ⟨s, 0, none⟩), .int .u64 5] 34)).alloc (.cells #[.pointer none, .pointer (some ⟨s, 0, none⟩), .int .u64 0] 34)) := (Mods.refl _ _).alloc _
  have hS1 := hS.ext m1
  have HN1 : Hid (Blk ((w1.alloc (.cells #[.pointer (some ⟨c, 0, none⟩), .pointer (some ⟨s, 0, none⟩), .int .u64 5] 34)).alloc (.cells #[.pointer none, .pointer (some ⟨s, 0, none⟩), .int .u64 0] 34)) (w1.heap.size + 1) #[.pointer none, .pointer (some ⟨s, 0, none⟩), .int .u64 0] 34) := Lib.hid (heap_at (by simp))
  have HC1 := Lib.hid (get_nil hS1.env (some ⟨s, 0, none⟩) 0 id key)
  have HS1 := Lib.hid hS1
  clear hG hN hS hS1 m1
  unfold noneV at HC1
  rw [pgV5]
  go_wp2_with fail
  refine (HC1.out).mono ?_
  rintro e w2 ⟨f1, rfl, hE1, hm2⟩
  have hn2 := HN1.out.ext hm2
  have n0 := hn2.cell (o := 0) (v := .pointer none) rfl
  have n1 := hn2.cell (o := 1) (v := .pointer (some ⟨s, 0, none⟩)) rfl
  have n2 := hn2.cell (o := 2) (v := .int .u64 0) rfl
  have HE1 := Lib.hid hE1
  have HS2 := Lib.hid (HS1.out.ext hm2)
  have HN2 := Lib.hid hn2
  have HC2 := Lib.hid (path_nil HS2.out.env (some ⟨s, 0, none⟩) 0 id key)
  unfold noneV at HC2
  clear hE1 hm2 hn2
  go_wp2_with fail
  refine (HC2.out).mono ?_
  rintro e w3 ⟨f2, rfl, hE2, hm3⟩
  have hn3 := HN2.out.ext hm3
  have n0 := hn3.cell (o := 0) (v := .pointer none) rfl
  have n1 := hn3.cell (o := 1) (v := .pointer (some ⟨s, 0, none⟩)) rfl
  have n2 := hn3.cell (o := 2) (v := .int .u64 0) rfl
  have HE1 := Lib.hid (HE1.out.mods hm3.ext)
  have HE2 := Lib.hid hE2
  have HS3 := Lib.hid (HS2.out.ext hm3)
  have HN3 := Lib.hid hn3
  have HC3 := Lib.hid (walk_nil HS3.out.env (some ⟨s, 0, none⟩) 0 id)
  unfold noneV at HC3
  clear hE2 hm3 hn3
  go_wp2_with fail
  refine (HC3.out).mono ?_
  rintro e w4 ⟨f3, rfl, hE3, hm4⟩
  have m4 : Ext w4 (w4.alloc (.cells #[.slice none 0 0, .slice none 0 0, .int .i64 0] 65)) := (Mods.refl _ w4).alloc _
  have hn4 := HN3.out.ext hm4
  have hnl := hn4.lt
  have n0 := hn4.cell (o := 0) (v := .pointer none) rfl
  have n1 := hn4.cell (o := 1) (v := .pointer (some ⟨s, 0, none⟩)) rfl
  have n2 := hn4.cell (o := 2) (v := .int .u64 0) rfl
  have HE1 := Lib.hid (HE1.out.mods (hm4.trans m4).ext)
  have HE2 := Lib.hid (HE2.out.mods (hm4.trans m4).ext)
  have HE3 := Lib.hid (hE3.mods m4.ext)
  have HS4 := Lib.hid (HS3.out.ext (hm4.trans m4))
  have HC4 := Lib.hid (load_nil HS4.out.env (some ⟨s, 0, none⟩) 0 id)
  unfold noneV at HC4
  clear hE3 hm4 hn4 m4
  go_wp2_with fail
  refine (HC4.out).mono ?_
  rintro e w5 ⟨f4, rfl, hE4, hm5⟩
  have m5 : Ext w5 (w5.alloc (.cells #[.bool false, .slice none 0 0, .slice none 0 0, .slice none 0 0] 57)) := (Mods.refl _ w5).alloc _
  have HE1 := Lib.hid (HE1.out.mods (hm5.trans m5).ext)
  have HE2 := Lib.hid (HE2.out.mods (hm5.trans m5).ext)
  have HE3 := Lib.hid (HE3.out.mods (hm5.trans m5).ext)
  have HE4 := Lib.hid (hE4.mods m5.ext)
  have HS5 := Lib.hid (HS4.out.ext (hm5.trans m5))
  have HT1 := Lib.hid (tellsT HS5.out.env HFU.out HE1.out 7 (by omega) rfl)
  have HT2 := Lib.hid (tellsT HS5.out.env HFU.out HE2.out 7 (by omega) rfl)
  have HT3 := Lib.hid (tellsT HS5.out.env HFU.out HE3.out 7 (by omega) rfl)
  have HT4 := Lib.hid (tellsT HS5.out.env HFU.out HE4.out 7 (by omega) rfl)
  have t0 := HS5.out.c0
  have t1 := HS5.out.c1
  have t2 : _ = some (Value.int .u64 5) := HS5.out.c2
  clear hE4 hm5 m5 n0 n1 n2
  go_wp2_with fail
  refine (HT1.out).mono ?_
  rintro e w6 ⟨rfl, rfl⟩
  go_wp2_with fail
  refine (HT2.out).mono ?_
  rintro e w6 ⟨rfl, rfl⟩
  go_wp2_with fail
  refine (HT3.out).mono ?_
  rintro e w6 ⟨rfl, rfl⟩
  go_wp2_with fail
  refine (HT4.out).mono ?_
  rintro e w6 ⟨rfl, rfl⟩
  have HC6 := Lib.hid (walk_zero (w := w5.alloc (.cells #[.bool false, .slice none 0 0, .slice none 0 0, .slice none 0 0] 57)) (c := c) (s := s) 5)
  rw [pgV5] at HC6
  go_wp2_with fail
  refine (HC6.out).mono ?_
  rintro e w6 ⟨rfl, hm6⟩
  have m6 : Ext w6 (w6.alloc (.cells #[.slice none 0 0, .slice none 0 0, .int .i64 0] 65)) := (Mods.refl _ w6).alloc _
  have hS6 := HS5.out.ext (hm6.trans m6)
  have HNP : Hid (¬ P w6.heap.size) := Lib.hid (fun hp => by have := (HS5.out.ext hm6).pg.bd _ hp; omega)
  have HR6 := Lib.hid (Blk.new w6 #[.slice none 0 0, .slice none 0 0, .int .i64 0] 65)
  have t0 := hS6.c0
  have t1 := hS6.c1
  have t2 : _ = some (Value.int .u64 5) := hS6.c2
  have HC7 := Lib.hid (look_any hS6.env hS6.sub hS6.pg 5 0 ⟨#[97]⟩ ((G0_puts_total 200 []).look _ _))
  rw [show lookA (putsG (G0 200) (List.map (fun x => x.1) ([] : List PgE))) 0 ⟨#[97]⟩ = .inl none from rfl, pgV5] at HC7
  have HS6 := Lib.hid hS6
  clear hm6 m6 hS6
  go_wp2_with fail
  refine (HC7.out).mono ?_
  rintro e w7 hd
  obtain ⟨P7, F7, hS7, hN7, rfl⟩ : ∃ P' F', LG ad w w7 w1.heap.size c s 5 P' F' (putsG (G0 200) []) (marksS (spNew 200) []) ∧ Nxt P P' F F' ad _ w7 ∧ _ := by
    obtain ⟨P', F', g, n, r⟩ := hd
    exact ⟨P', F', HS6.out.step n g, n, r⟩
  have hr7 := hN7.blk HR6.out HNP.out
  have r0 := hr7.cell (o := 0) (v := .slice none 0 0) rfl
  have r2 := hr7.cell (o := 2) (v := .int .i64 0) rfl
  have t0 := hS7.c0
  have t1 := hS7.c1
  have t2 : _ = some (Value.int .u64 5) := hS7.c2
  have HS7 := Lib.hid hS7
  have HC8 := Lib.hid (load_any hS7.env hS7.sub hS7.pg 5 id ((G0_puts_total 200 []).knows _))
  rw [pgV5] at HC8
  clear hd hS7 hN7 hr7
  go_wp2_with fail
  refine (HC8.out).mono ?_
  rintro e w8 hd
  by_cases hid : id < 0 ∨ 200 ≤ id
  · rw [show (putsG (G0 200) ([] : List PageA)).load id = .inr (-1 :: [pgOf id], 2) from get_out (G := G0 200) (by show id < 0 ∨ ((200 : Nat) : Int) ≤ id; omega)] at hd
    obtain ⟨P8, F8, hS8, f8, rfl, hE8⟩ := HS7.out.done hd
    have m8 : Ext w8 (w8.alloc (.cells #[.bool false, .slice none 0 0, .slice none 0 0, .slice none 0 0] 57)) := (Mods.refl _ w8).alloc _
    have HTT := Lib.hid (tellsT (hS8.env.mods m8.ext) HFU.out (hE8.mods m8.ext) 2 (by omega) rfl)
    have HX8 := Lib.hid (hS8.ext0.trans m8)
    have HAW := Lib.hid (awake11_any (HL.out.mods HX8.out.ext))
    have HID := Lib.hid hid
    clear hd hS8 hE8 m8 hid
    by_cases h0 : id < 0
    · go_wp2_with fail
      refine (HTT.out).mono ?_
      rintro e w9 ⟨rfl, rfl⟩
      go_wp2_with fail
      refine (HAW.out).mono ?_
      rintro e w9 ⟨rfl, hm9⟩
      have HM9 := Lib.hid (HX8.out.trans hm9)
      clear hm9
      go_wp2_with fail
      go_ret
      exact ⟨rfl, HM9.out⟩
    · have h1 : 200 ≤ id := by have := HID.out; omega
      go_wp2_with fail
      refine (HTT.out).mono ?_
      rintro e w9 ⟨rfl, rfl⟩
      go_wp2_with fail
      refine (HAW.out).mono ?_
      rintro e w9 ⟨rfl, hm9⟩
      have HM9 := Lib.hid (HX8.out.trans hm9)
      clear hm9
      go_wp2_with fail
      go_ret
      exact ⟨rfl, HM9.out⟩
  · obtain ⟨i, rfl⟩ : ∃ i : Nat, id = i := ⟨id.toNat, by omega⟩
    obtain ⟨el, hel⟩ := load_none (n := 200) (i := i) (by omega)
    rw [show (putsG (G0 200) ([] : List PageA)).load (i : Int) = .inr (el, 5) from hel] at hd
    obtain ⟨P8, F8, hS8, f8, rfl, hE8⟩ := HS7.out.done hd
    have m8 : Ext w8 (w8.alloc (.cells #[.bool false, .slice none 0 0, .slice none 0 0, .slice none 0 0] 57)) := (Mods.refl _ w8).alloc _
    have HTT := Lib.hid (tellsT (hS8.env.mods m8.ext) HFU.out (hE8.mods m8.ext) 5 (by omega) rfl)
    have HX8 := Lib.hid (hS8.ext0.trans m8)
    have HAW := Lib.hid (awake11_any (HL.out.mods HX8.out.ext))
    have h0 : ¬ (i : Int) < 0 := by omega
    have h1 : ¬ (200 : Int) ≤ (i : Int) := by omega
    clear hd hS8 hE8 m8 hid
    go_wp2_with fail
    refine (HTT.out).mono ?_
    rintro e w9 ⟨rfl, rfl⟩
    go_wp2_with fail
    refine (HAW.out).mono ?_
    rintro e w9 ⟨rfl, hm9⟩
    have HM9 := Lib.hid (HX8.out.trans hm9)
    clear hm9
    go_wp2_with fail
    go_ret
    exact ⟨rfl, HM9.out⟩
end Go.Proofs.YtmgfneijcfjlfaaGreatDoor
