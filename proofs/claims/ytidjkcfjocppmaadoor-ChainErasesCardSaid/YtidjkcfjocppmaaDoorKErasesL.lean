/- ChainErases, walked. -/
import Derived.Test.YtidjkcfjocppmaaDoorKLawC
namespace Go.Proofs.YtidjkcfjocppmaaDoor
open Go.RowKit
attribute [local go_sem ↓] Go.wp_at_zero Go.wp_at_succ
section
variable {ad : Nat → Addr} {w0 w w' : World} {B c s : Nat} {P P' F F' : Nat → Prop} {G G' : GA} {l l' : List Nat}
/-- Erase, in a law, of what is known. -/
def LsErased (ad : Nat → Addr) (w0 : World) (B c s : Nat) (G : GA) (b k m : Nat) (e : Ending) (w' : World) : Prop :=
  ∃ P' F', e = .returned .nilIface ∧ LS ad w0 w' B c s P' F' (giveG G (idsK k m)) (spK b k)
theorem giveL_K (b k m : Nat) (h : k + 2 + m ≤ b) : giveL (spK b (k + m)) (idsK k m) = spK b k ∧ giveOk (spK b (k + m)) (idsK k m) := by
  have key : ∀ (m k : Nat), k + 2 + m ≤ b → Taken (spK b k) (idsK k m) (spK b (k + m)) := by
    intro m
    induction m with
    | zero => intro k _; exact Taken.nil _
    | succ m ih =>
      intro k hk
      have h1 := ih k (by omega)
      have h2 := h1.step (spK_ok b k (by omega)) (i := k + m + 2) (by rw [spK_free b (k + m) (by omega), if_pos (by omega)])
      have e1 : idsK k m ++ [k + m + 2] = idsK k (m + 1) := by
        unfold idsK; rw [List.range_succ, List.map_append]; simp; omega
      rw [e1, show k + m + 2 = (k + m) + 2 from rfl, spK_set b (k + m) (by omega)] at h2
      exact h2.1
  exact ⟨(key m k h).back, (key m k h).ok⟩
theorem lsErase {b k : Nat} {v : ByteArray} (h : LS ad w0 w B c s P F G (spK b (k + ndK v.size))) (hs : G.size = 256) (hb : G.blocks = b) (hb2 : b ≤ 256) (hH : Holds G 7 v.data.toList k (ndK v.size)) (hk : k + 2 + ndK v.size ≤ b) (h25 : 25 ≤ v.size) (h4096 : v.size ≤ 4096) (id n : Nat) (hid : id = k + 2) (hn : n = v.size) :
    Calls Tryd.prog 17 #[pgV c s 7, .int .i64 (id : Int), .int .i64 (n : Int)] w (LsErased ad w0 B c s G b k (ndK v.size)) := by
  subst hid hn
  have hl : v.data.toList.length = v.size := size_toList v
  have hf : Fit v.data.toList.length 228 (ndK v.size) := by rw [hl]; exact ndK_fit _ (by omega)
  obtain ⟨w1, w2⟩ := walk_all hf (by omega) (by omega) (by omega) hH
  have hz := chErr_holds hf (by omega) (by omega) (by omega) hH (by omega) (by omega)
  rw [hl] at w1 w2 hz
  obtain ⟨g1, g2⟩ := giveL_K b k (ndK v.size) hk
  refine (chErase_any h.env h.sub h.pg 7 ((k + 2 : Nat) : Int) (v.size : Int) (by omega) (fun _ _ => by rw [Int.toNat_natCast]; exact w2) (idsK k (ndK v.size)) (fun _ => ⟨?_, g2⟩)).mono ?_
  · rw [Int.toNat_natCast, w1]
    simp only [List.map_map, idsK, List.range_eq_range']
    rfl
  · rintro e w' ⟨P', F', G', l', hG, hN, ⟨_, rfl, rfl, rfl⟩ | ⟨er, f, he, _⟩⟩
    · rw [g1] at hG
      exact ⟨P', F', rfl, h.step hN hG⟩
    · rw [hz] at he; cases he
end
set_option maxRecDepth 100000 in
set_option maxHeartbeats 4000000 in
theorem ChainErases_any {ad : Nat → Addr} {w : World} (hL : Env NoB ad w) (a b : Int) :
    Calls Tryd.prog 4 #[.int .i64 a, .int .i64 b] w fun e w' => e = .returned (.bool true) ∧ Ext w w' := by
  obtain ⟨na, hna⟩ : ∃ k : Nat, lenI a = (k : Int) := ⟨(lenI a).toNat, by have := lenI_range a; omega⟩
  obtain ⟨nb, hnb⟩ : ∃ k : Nat, lenI b = (k : Int) := ⟨(lenI b).toNat, by have := lenI_range b; omega⟩
  have ha1 : 25 ≤ na ∧ na ≤ 4096 := by have := lenI_range a; omega
  have hb1 : 25 ≤ nb ∧ nb ≤ 4096 := by have := lenI_range b; omega
  obtain ⟨ha25, ha4⟩ := ha1
  obtain ⟨hb25, hb4⟩ := hb1
  have HA := Lib.hid hna
  have HB := Lib.hid hnb
  have MA := Lib.hid (ndK_le na ha4)
  have MB := Lib.hid (ndK_le nb hb4)
  have HL := Lib.hid hL
  clear hL hna hnb
  go_enter Tryd.func4, Tryd.ntmps4
  go_wp2_with fail
  refine (pager_any HL.out 60 (by omega) (by omega)).mono ?_
  rintro e w1 ⟨c, s, P, F, rfl, hG, hN⟩
  have hS := LS.start hG hN
  rw [spK_zero 60 (by omega)] at hS
  have HS := Lib.hid hS
  have t0 := hS.c0
  have t1 := hS.c1
  have t2 := hS.c2
  clear hG hN hS
  unfold pgV
  go_wp2_with fail
  refine (length_any a _).mono ?_
  rintro e w2 ⟨rfl, rfl⟩
  rw [HA.out]
  go_wp2_with fail
  refine (length_any b _).mono ?_
  rintro e w2 ⟨rfl, rfl⟩
  rw [HB.out]
  go_wp2_with fail
  go_region_held3 (fun w' => w'.cell? ⟨w1.heap.size, 0, none⟩ = some (.pointer (some ⟨c, 0, none⟩)) ∧ w'.cell? ⟨w1.heap.size, 1, none⟩ = some (.pointer (some ⟨s, 0, none⟩)) ∧ w'.cell? ⟨w1.heap.size, 2, none⟩ = some (.int .u64 7))
    (first | (with_reducible exact ⟨x0, x1, x2⟩) | (with_reducible exact ⟨z0, z1, z2⟩) | go_keep)
    (first
      | (go_at_call 15; refine (tx_any na ha4 1 _).mono ?_; rintro e w3 ⟨rfl, hm3⟩; have x0 := cellE hm3 t0; have x1 := cellE hm3 t1; have x2 := cellE hm3 t2)
      | (go_at_call 14; refine (lsWrite (HS.out.drew.ext hm3) rfl rfl (by omega) (by decide) (tx na 1) (by rw [tx_size]; exact ha25) (by rw [tx_size]; exact ha4)).mono ?_; rintro e w4 ht4; obtain ⟨iv, ev, rfl⟩ := ht4.form; have z0 := ht4.box.cell (o := 0) rfl; have z1 := ht4.box.cell (o := 1) rfl; have z2 := ht4.box.cell (o := 2) rfl))
  obtain ⟨x, hx, rfl, rfl, P4, F4, G4, hS4, hp4⟩ := ht4.okT (by have := MA.out; omega)
  have HX := Lib.hid hx
  have HP4 := Lib.hid hp4
  have HS4 := Lib.hid hS4
  clear z0 z1 z2 x0 x1 x2 hm3 ht4 hS4 hx hp4 t0 t1 t2
  have t0 := HS4.out.c0
  have t1 := HS4.out.c1
  have t2 := HS4.out.c2
  go_wp2_with fail
  refine (pgFree HS4.out.pg).mono ?_
  rintro e w5 ⟨rfl, rfl⟩
  obtain ⟨fr, hfr⟩ : ∃ fr, fr = spCount (spK 60 (0 + ndK na)) := ⟨_, rfl⟩
  rw [← hfr]
  have HFR := Lib.hid hfr
  clear hfr
  go_wp2_with fail
  go_region_held3 (fun w' => w'.cell? ⟨w1.heap.size, 0, none⟩ = some (.pointer (some ⟨c, 0, none⟩)) ∧ w'.cell? ⟨w1.heap.size, 1, none⟩ = some (.pointer (some ⟨s, 0, none⟩)) ∧ w'.cell? ⟨w1.heap.size, 2, none⟩ = some (.int .u64 7))
    (first | (with_reducible exact ⟨x0, x1, x2⟩) | (with_reducible exact ⟨z0, z1, z2⟩) | go_keep)
    (first
      | (go_at_call 15; refine (tx_any nb hb4 2 _).mono ?_; rintro e w3 ⟨rfl, hm3⟩; have x0 := cellE hm3 t0; have x1 := cellE hm3 t1; have x2 := cellE hm3 t2)
      | (go_at_call 14; refine (lsWrite (HS4.out.drew.ext hm3) (HP4.out.blocks.trans rfl) (HP4.out.size.trans rfl) (by have := MA.out; omega) (by rw [HP4.out.cost]; have := MA.out; show 0 + _ + _ ≤ _; omega) (tx nb 2) (by rw [tx_size]; exact hb25) (by rw [tx_size]; exact hb4)).mono ?_; rintro e w6 ht6; obtain ⟨iv, ev, rfl⟩ := ht6.form; have z0 := ht6.box.cell (o := 0) rfl; have z1 := ht6.box.cell (o := 1) rfl; have z2 := ht6.box.cell (o := 2) rfl))
  obtain ⟨y, hy, rfl, rfl, P6, F6, G6, hS6, hp6⟩ := ht6.okT (by have := MA.out; have := MB.out; omega)
  have HY := Lib.hid hy
  have HP6 := Lib.hid hp6
  have HS6 := Lib.hid hS6
  clear z0 z1 z2 x0 x1 x2 hm3 ht6 hS6 hy hp6 t0 t1 t2
  have t0 := HS6.out.c0
  have t1 := HS6.out.c1
  have t2 := HS6.out.c2
  go_wp2_with fail
  refine (lsErase (b := 60) (v := tx nb 2) (k := 0 + ndK na) (by rw [tx_size]; exact HS6.out) (HP6.out.size.trans (HP4.out.size.trans rfl)) (HP6.out.blocks.trans (HP4.out.blocks.trans rfl)) (by omega) (by rw [tx_size]; exact HP6.out.here (HP4.out.size.trans rfl)) (by rw [tx_size]; have := MA.out; have := MB.out; omega) (by rw [tx_size]; exact hb25) (by rw [tx_size]; exact hb4) y nb HY.out (by rw [tx_size])).mono ?_
  rintro e w7 ⟨P7, F7, rfl, hS7⟩
  have HS7 := Lib.hid hS7
  clear hS7 t0 t1 t2
  have t0 := HS7.out.c0
  have t1 := HS7.out.c1
  have t2 := HS7.out.c2
  go_wp2_with fail
  refine (pgFree HS7.out.pg).mono ?_
  rintro e w8 ⟨rfl, rfl⟩
  rw [← HFR.out]
  go_wp2_with fail
  refine (lsRead (G := giveG G6 (idsK (0 + ndK na) (ndK (tx nb 2).size))) (k := 0) HS7.out ((giveG_same _ _).2.1.trans (HP6.out.size.trans (HP4.out.size.trans rfl))) (by rw [(giveG_same _ _).1, HP6.out.blocks, HP4.out.blocks]; show 60 ≤ 256; omega) (tx na 1) ?_ (by rw [tx_size, (giveG_same _ _).1, HP6.out.blocks, HP4.out.blocks]; have := MA.out; show _ ≤ 60; omega) (by rw [tx_size]; exact ha25) (by rw [tx_size]; exact ha4) x na HX.out (by rw [tx_size])).mono ?_
  · rw [show ndK (tx na 1).size = ndK na by rw [tx_size]]
    exact holds_give (HP6.out.far _ _ _ (HP4.out.here rfl) (by omega)) (idsK (0 + ndK na) (ndK (tx nb 2).size)) (fun id hid => by
      unfold idsK at hid
      rw [List.mem_map] at hid
      obtain ⟨q, _, rfl⟩ := hid
      omega)
  rintro e w9 ⟨P9, F9, rfl, hS9⟩
  have HS9 := Lib.hid hS9
  clear hS9
  go_wp2_with fail
  refine (tx_any na ha4 1 _).mono ?_
  rintro e w10 ⟨rfl, hm10⟩
  have HS10 := Lib.hid (HS9.out.ext hm10)
  clear hm10
  go_wp2_with fail
  refine (awake_any (HL.out.mods HS10.out.ext0)).mono ?_
  rintro e w11 ⟨rfl, hm11⟩
  have HM := Lib.hid (HS10.out.ext0.trans hm11)
  clear hm11
  go_wp2_with fail
  go_ret
  exact ⟨rfl, HM.out⟩
end Go.Proofs.YtidjkcfjocppmaaDoor
