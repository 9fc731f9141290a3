/- block.Right, New. -/
import Derived.Test.YtidjkcfjocppmaaDoorKDisk7
namespace Go.Proofs.YtidjkcfjocppmaaDoor
open Go.RowKit
attribute [local go_sem ↓] Go.wp_at_zero Go.wp_at_succ

theorem right_ok (b s : Nat) (h1 : 8 ≤ b) (h2 : b ≤ 256) (h3 : 256 ≤ s) (h4 : s ≤ 1024) (w : World) :
    Calls Tryd.prog 58 #[.agg #[.int .i64 (b : Int), .int .i64 (s : Int)]] w fun e w' => e = .returned (.bool true) ∧ Ext w w' := by
  have a1 : decide ((8 : Int) ≤ (b : Int)) = true := by simp; omega
  have a2 : decide ((b : Int) ≤ 256) = true := by simp; omega
  have a3 : decide ((256 : Int) ≤ (s : Int)) = true := by simp; omega
  have a4 : decide ((s : Int) ≤ 1024) = true := by simp; omega
  clear h1 h2 h3 h4
  go_enter Tryd.func58, Tryd.ntmps58
  go_wp2
  go_ret
  exact ⟨rfl, (Mods.refl _ _).alloc _⟩

def encG (size : Nat) (g : Nat) : List Value := [rowV size g]
theorem encG_ok (size : Nat) : EncOk (encG size) 1 := ⟨fun _ => rfl, by intro x u hu; simp [encG, rowV] at hu; subst hu; rfl⟩
theorem Tryd.elR : ElT Tryd.prog 97 50 (.slice none 0 0) 1 24 := ⟨Tryd.underlying97, by kernel_rfl, rfl, by decide, by decide⟩
section
variable {F : Nat → Prop} {ad : Nat → Addr} {w w' : World}
def NewI (w : World) (B0 B1 b s : Nat) (wr : World) (gs : List Nat) (v : Value) : Prop :=
  Ext w wr ∧ B1 < wr.heap.size ∧ Blk wr B0 #[.int .i64 (b : Int), .int .i64 (s : Int)] 71 ∧ Blk wr B1 #[.int .i64 (b : Int), .int .i64 (s : Int), v, .slice none 0 0, .bool false, .int .i64 0, .int .i64 0, .int .i64 0, .slice none 0 0, .bool false, .int .i64 0] 103 ∧
      Own (fun x => x ∈ B0 :: B1 :: gs) wr B0 50 1 (encG s) v gs ∧ (B0 :: B1 :: gs).Nodup ∧ ∀ g, g ∈ gs → B1 < g ∧ Blk wr g (bytesC (List.replicate s 0)) 5
theorem bytesC_zero (s : Nat) : bytesC (List.replicate s 0) = Array.replicate s (.int .u8 0) := by
  rw [bytesC, List.map_replicate, List.toArray_replicate]; rfl
theorem NewI.step {B0 B1 b s : Nat} {wr w4 : World} {gs : List Nat} {v v' : Value} (h : NewI w B0 B1 b s wr gs v) (hw : w.heap.size ≤ B0) (hB : B0 < B1)
    (hown : Own (fun x => x ∈ B0 :: B1 :: gs) w4 B0 50 1 (encG s) v' (gs ++ [wr.heap.size])) (hgrow : ((wr.drew.alloc (.cells (Array.replicate s (.int .u8 0)) 5)).alloc (.cells #[.slice (some ⟨wr.heap.size, 0, none⟩) s s] 50)).grownBy w4 v.ownBlock)
    (hat : v'.ownBlock = v.ownBlock ∨ v'.ownBlock = some (wr.heap.size + 2)) : NewI w B0 B1 b s (w4.setCell ⟨B1, 2, none⟩ v') (gs ++ [wr.heap.size]) v' := by
  obtain ⟨h1, h2, h3, h4, h6, h7, h8⟩ := h
  have mg := Mods.of_grown hgrow
  have m0 : Ext wr ((wr.drew.alloc (.cells (Array.replicate s (.int .u8 0)) 5)).alloc (.cells #[.slice (some ⟨wr.heap.size, 0, none⟩) s s] 50)) := ((Mods.refl _ wr).drew.alloc _).alloc _
  have e1 : ((wr.drew.alloc (.cells (Array.replicate s (.int .u8 0)) 5)).alloc (.cells #[.slice (some ⟨wr.heap.size, 0, none⟩) s s] 50)).heap.size = wr.heap.size + 2 := by simp
  have hsz := mg.size
  rw [e1] at hsz
  have e3 : wr.drew.heap.size = wr.heap.size := rfl
  have mA : Mods (fun x => v.ownBlock = some x) wr w4 := m0.ext.trans mg
  have hv0 : ∀ x, v.ownBlock = some x → w.heap.size ≤ x ∧ x < wr.heap.size := fun x hx => by have := h6.lt x hx; omega
  have hvn : ∀ x, x ∈ B0 :: B1 :: gs → ¬ v.ownBlock = some x := fun x hx e => h6.2 x e hx
  have hlt : ∀ x, x ∈ B0 :: B1 :: gs → x < wr.heap.size := fun x hx => by
    simp only [List.mem_cons] at hx
    rcases hx with rfl | rfl | hx
    · exact h3.lt
    · exact h4.lt
    · exact (h8 x hx).2.lt
  have far : ∀ (x : Nat) (c : Array Value) (t : TypeId), x ∈ B0 :: B1 :: gs → x ≠ B1 → Blk wr x c t → Blk (w4.setCell ⟨B1, 2, none⟩ v') x c t := fun x c t hx hne hb => (hb.mods mA (hvn x hx)).set_other hne _
  have hmem : ∀ x, x ∈ B0 :: B1 :: (gs ++ [wr.heap.size]) → x ∈ B0 :: B1 :: gs ∨ x = wr.heap.size := fun x hx => by
    simp only [List.mem_cons, List.mem_append, List.not_mem_nil, or_false] at hx ⊢
    rcases hx with h | h | h | h <;> simp [h]
  have hnew : Blk (w4.setCell ⟨B1, 2, none⟩ v') wr.heap.size (bytesC (List.replicate s 0)) 5 := by
    rw [bytesC_zero]
    exact (((Blk.new wr.drew _ _).alloc _).mods mg (fun e => by have := hv0 _ e; omega)).set_other (by simp only; omega) _
  refine ⟨(h1.trans' mA (fun i hi e => by have := (hv0 i e).1; omega)).setCell (.inl (by simp only; omega)) _, ?_, far B0 _ _ List.mem_cons_self (by omega) h3, ?_, ?_, ?_, fun g hg => ?_⟩
  · simp only [World.setCell, Array.size_modify]; omega
  · have := (h4.mods mA (hvn B1 (List.mem_cons_of_mem _ List.mem_cons_self))).set 2 v'
    simpa using this
  · have hno : ∀ x, v'.ownBlock = some x → x ≠ B1 := fun x hx e => hown.2 x hx (e ▸ List.mem_cons_of_mem _ List.mem_cons_self)
    have k1 := hown.mods (Mods.at (fun x => x = B1) w4 B1 2 v' rfl) hno
    refine ⟨k1.1, fun x hx hm => ?_⟩
    rcases hmem x hm with hm | rfl
    · exact k1.2 x hx hm
    · rcases hat with e | e
      · have := (hv0 _ (e ▸ hx)).2; omega
      · rw [e] at hx; injection hx with hx; omega
  · have e : B0 :: B1 :: (gs ++ [wr.heap.size]) = (B0 :: B1 :: gs) ++ [wr.heap.size] := by simp
    rw [e, List.nodup_append]
    exact ⟨h7, by simp, fun x hx y hy e => by have := hlt x hx; simp at hy; omega⟩
  · rw [List.mem_append] at hg
    rcases hg with hg | hg
    · exact ⟨(h8 g hg).1, far g _ _ (List.mem_cons_of_mem _ (List.mem_cons_of_mem _ hg)) (fun e => by have := (h8 g hg).1; omega) (h8 g hg).2⟩
    · simp at hg; subst hg; exact ⟨h2, hnew⟩
theorem map_flat (s : Nat) : ∀ gs : List Nat, gs.map (rowV s) = gs.flatMap (encG s)
  | [] => rfl
  | x :: r => by rw [List.map_cons, List.flatMap_cons, map_flat s r]; rfl
theorem NewI.disk {B0 B1 b s : Nat} {wr : World} {gs : List Nat} {cap : Nat} {a : Option Addr} (h : NewI w B0 B1 b s wr gs (.slice a b cap)) (hl : gs.length = b) (hw : w.heap.size ≤ B0) (hB : B0 < B1) (h1 : 8 ≤ b) (h2 : b ≤ 256) (h3 : 256 ≤ s) (h4 : s ≤ 1024) :
    ∃ P, DkS wr P B1 (newDisk b s) ∧ ∀ k, P k → w.heap.size ≤ k := by
  obtain ⟨k1, k2, k3, k4, k6, k7, k8⟩ := h
  rcases k6.1.2 with ⟨e, _⟩ | ⟨bl, cap', cur, e, hb, hblk, hc, hm, hs, ht⟩
  · cases e; omega
  · simp only [Value.slice.injEq] at e
    obtain ⟨rfl, _, rfl⟩ := e
    have hnb := k6.2 bl rfl
    simp only [List.mem_cons, not_or] at hnb
    have hnd := (List.nodup_cons.1 k7).2
    unfold maxLen at hm
    refine ⟨dkF B1 bl gs [] (.slice none 0 0) (.slice none 0 0), ⟨bl, gs, [], .slice none 0 0, .slice none 0 0, ⟨⟨cap, by show b ≤ cap; omega, by omega, k4, cur.toList.drop gs.length, ?_, ?_⟩, hl, by simp [newDisk], rfl, Own.nil _ _ _ _ _ _, fun g hg => by simp [Value.ownBlock] at hg, by simp [newDisk], Own.nil _ _ _ _ _ _,
      fun i g b' hg hb' => ?_, fun i g p hg => by simp at hg, ?_, h1, h2, h3, h4, by simp [newDisk]⟩, fun k => Iff.rfl⟩, fun k hk => ?_⟩
    · have e2 : (gs.map (rowV (newDisk b s).size) ++ cur.toList.drop gs.length).toArray = cur := by
        have : gs.map (rowV (newDisk b s).size) = cur.toList.take gs.length := by
          have h5 : cur.toList.take (gs.length * 1) = gs.flatMap (encG s) := by simpa using ht
          rw [Nat.mul_one] at h5
          rw [h5]
          exact map_flat s gs
        rw [this, List.take_append_drop, Array.toArray_toList]
      rw [e2]; exact hblk
    · simp; omega
    · rw [show (newDisk b s).lasting = List.replicate b (List.replicate s 0) by rfl, List.getElem?_replicate] at hb'
      split at hb'
      · injection hb' with hb'
        subst hb'
        exact ⟨by simp [newDisk], (k8 g (List.mem_of_getElem? hg)).2⟩
      · cases hb'
    · rw [List.append_nil, List.nodup_cons, List.nodup_cons]
      refine ⟨?_, hnb.2.2, (List.nodup_cons.1 hnd).2⟩
      rw [List.mem_cons]
      rintro (e | e)
      · exact hnb.2.1 e.symm
      · exact (List.nodup_cons.1 hnd).1 e
    · have hB1 : w.heap.size ≤ B1 := by omega
      rcases hk with hk | hk | hk
      · simp only [List.append_nil, List.mem_cons] at hk
        rcases hk with rfl | rfl | hk
        · exact hB1
        · omega
        · have := (k8 k hk).1; omega
      · simp [Value.ownBlock] at hk
      · simp [Value.ownBlock] at hk
set_option maxRecDepth 100000 in
set_option maxHeartbeats 1000000 in
theorem dkNew_ok (b s : Nat) (h1 : 8 ≤ b) (h2 : b ≤ 256) (h3 : 256 ≤ s) (h4 : s ≤ 1024) :
    Calls Tryd.prog 34 #[.agg #[.int .i64 (b : Int), .int .i64 (s : Int)]] w fun e w' => ∃ d P, e = .returned (.tuple #[.pointer (some ⟨d, 0, none⟩), .nilIface]) ∧ DkS w' P d (newDisk b s) ∧ (∀ k, P k → w.heap.size ≤ k) ∧ Ext w w' := by
  have hmk := run_mk (P := Tryd.prog) 50 5 (.int .u8 0) 1 Tryd.underlying50 Tryd.mkB rfl s (by omega) (by omega)
  go_enter Tryd.func34, Tryd.ntmps34
  go_wp2_with fail
  refine (right_ok b s h1 h2 h3 h4 _).mono ?_
  rintro e w1 ⟨rfl, hm⟩
  have k0 := (Blk.new w #[.int .i64 (b : Int), .int .i64 (s : Int)] 71).ext hm
  have c0 := k0.cell (o := 0) (v := .int .i64 (b : Int)) rfl
  have c1 := k0.cell (o := 1) (v := .int .i64 (s : Int)) rfl
  have HM : Hid (Ext w w1) := Lib.hid (((Mods.refl _ w).alloc _).trans hm)
  have HS : Hid (w.heap.size < w1.heap.size) := Lib.hid k0.lt
  have K0 := Lib.hid k0
  have hsz := HS.out
  clear k0 hm
  go_wp2_with fail
  go_loopg [15] b (fun m i wr => ∃ (cap : Nat) (gs : List Nat) (a : Option Addr), gs.length + m = b ∧ i = .int .i64 gs.length ∧ Hid (NewI w w.heap.size w1.heap.size b s wr gs (.slice a gs.length cap)))
  case atStart => exact ⟨0, [], none, by simp, rfl, Lib.hid ⟨HM.out.alloc _, by simp, K0.out.alloc _, Blk.new w1 _ _, Own.nil _ _ _ _ _ _, by simp; omega, by simp⟩⟩
  case round =>
    obtain ⟨cap, gs, a, hk, rfl, HW⟩ := hrel
    obtain ⟨hW1, hW2, hW3, hW4, hW6, hW7, hW8⟩ := HW.out
    have d2 := hW4.cell (o := 2) (v := .slice a gs.length cap) rfl
    have f2 := hW4.frozen 2
    have g0 := hW3.cell (o := 0) (v := .int .i64 (b : Int)) rfl
    have g1 := hW3.cell (o := 1) (v := .int .i64 (s : Int)) rfl
    have l0 := cell_lt g0
    have l1 := cell_lt d2
    have HO : Hid (Own (fun x => x ∈ w.heap.size :: w1.heap.size :: gs) wr.drew w.heap.size 50 1 (encG s) (.slice a gs.length cap) gs) := Lib.hid (hW6.ext (Mods.refl _ _).drew)
    have HLT : Hid (∀ x, x ∈ w.heap.size :: w1.heap.size :: gs → x < wr.heap.size) := Lib.hid (fun x hx => by
      simp only [List.mem_cons] at hx
      rcases hx with rfl | rfl | hx
      · exact l0
      · exact l1
      · exact (hW8 x hx).2.lt)
    have HDN : Hid (¬ (Value.slice a gs.length cap).ownBlock = some w1.heap.size) := Lib.hid (fun e => hW6.2 _ e (by simp))
    have HDB : Hid (w.heap.size ≤ wr.heap.size) := Lib.hid hW1.size
    obtain ⟨k, hkk⟩ : ∃ k, k = gs.length := ⟨_, rfl⟩
    have HGL := Lib.hid hkk
    have hmkd : ∀ x : Obj, ((wr.alloc x).cell? ⟨w1.heap.size, 2, none⟩ = some (.slice a gs.length cap) ∧ (wr.alloc x).cell? ⟨w.heap.size, 1, none⟩ = some (.int .i64 (s : Int))) := fun x => ⟨cell_alloc d2 x, cell_alloc g1 x⟩
    have hmkd2 : ∀ x y : Obj, ((wr.alloc x).alloc y).cell? ⟨w1.heap.size, 2, none⟩ = some (.slice a gs.length cap) := fun x y => cell_alloc (cell_alloc d2 x) y
    clear hW1 hW2 hW3 hW4 hW6 hW7 hW8 hkk
    by_cases hlt : gs.length < b
    · go_wp2_with fail
      go_region_law
        ((refine step_app (enc := encG s) (F := fun x => x ∈ w.heap.size :: w1.heap.size :: gs) (G := fun _ => False) Tryd.elR (encG_ok s) (by rfl) _ _ (by rfl) w.heap.size (.slice a gs.length cap) (.slice (some ⟨wr.heap.size + 1, 0, none⟩) 1 1) gs [wr.heap.size] (by rfl) (by rfl) (HO.out.ext (((Mods.refl _ wr.drew).alloc _).alloc _)) (Sl.one (x := wr.heap.size) (t := 50) (fz := (0, 0)) (heap_at (by simp)) (fun f => f)) (by simp; omega) (by have := HDB.out; simp; omega) (fun f => by have := HLT.out _ f; simp at this; omega) ?_; intro a' c' w4 hown hgrow hat; obtain ⟨k4, k5⟩ := keepC (Mods.of_grown hgrow) (keepA (keepA (w := wr.drew) ⟨d2, f2⟩ _) _) HDN.out))
      all_goals
        have HNX := Lib.hid (HW.out.step (Nat.le_refl _) hsz hown hgrow (by simpa using hat))
        clear hown hgrow hat k4 k5
        go_wp2_with fail
        go_roundg (gk - 1)
        case measure => omega
        case rel => exact ⟨c', gs ++ [wr.heap.size], a', by simp; omega, by simp, by simpa using HNX⟩
    · have hkb : gs.length = b := by omega
      have HKB := Lib.hid hkb
      clear hkb
      go_wp2_with fail
      go_ret2
      have hN := HW.out
      rw [HKB.out] at hN
      obtain ⟨P, q1, q2⟩ := hN.disk HKB.out (Nat.le_refl _) hsz h1 h2 h3 h4
      exact ⟨w1.heap.size, P, rfl, q1, q2, hN.1⟩
end
end Go.Proofs.YtidjkcfjocppmaaDoor
