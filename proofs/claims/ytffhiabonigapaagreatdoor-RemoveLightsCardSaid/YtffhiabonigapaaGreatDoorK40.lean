/- ref13.Weight. | ref11.chained. | The reference's leaves, step by step. Plain. | Levels and pages, while a tree is built. -/
import Derived.Test.YtffhiabonigapaaGreatDoorK31
import Derived.Test.YtffhiabonigapaaGreatDoorK35
import Derived.Deep.RegionHeld3
import Derived.IntWalk
import Derived.Test.YtffhiabonigapaaGreatDoorK22
import Derived.Deep.RegionLawGrows
namespace Go.Proofs.YtffhiabonigapaaGreatDoor
open Go.RowKit
section
variable {F : Nat → Prop} {w w' : World}
theorem weight13_any (n : NodeA) (ve vk vi : Value) (hve : Sl F w 4 encE ve n.entries) (hvk : Sl F w 1 encS vk n.keys) (hvi : Sl F w 1 encI vi n.kids) (hok : okB n) (hlen : (bytesN n).length ≤ 100000) (b : Bool) (hb : n.leaf = b) :
    Calls Tryz.prog 17 #[.agg #[.bool b, ve, vk, vi]] w fun e w' => e = .returned (.int .i64 ((bytesN n).length : Int)) ∧ Ext w w' := by
  subst hb
  have m0 : Ext w (w.alloc (.cells #[.bool n.leaf, ve, vk, vi] 26)) := (Mods.refl _ w).alloc _
  have HB := Lib.hid (bytes07_any n ve vk vi (hve.ext m0) (hvk.ext m0) (hvi.ext m0) hok hlen)
  have M0 := Lib.hid m0
  obtain ⟨ea, ec, rfl, _, _, _, _⟩ := hve
  obtain ⟨ka, kc, rfl, _, _, _, _⟩ := hvk
  obtain ⟨ia, ic, rfl, _, _, _, _⟩ := hvi
  obtain ⟨N, hN⟩ : ∃ N, N = (bytesN n).length := ⟨_, rfl⟩
  have HN := Lib.hid hN
  rw [← hN]
  clear m0 hok hlen hN
  go_enter Tryz.func17, Tryz.ntmps17
  go_wp2_with fail
  refine HB.out.mono ?_
  rintro e w1 ⟨v, rfl, hO, hm⟩
  obtain ⟨a, c, rfl, _, _⟩ := hO.form
  have HM := Lib.hid hm
  rw [← HN.out]
  clear hO hm
  go_wp2_with fail
  go_ret
  exact ⟨rfl, M0.out.trans HM.out⟩
end
end Go.Proofs.YtffhiabonigapaaGreatDoor
namespace Go.Proofs.YtffhiabonigapaaGreatDoor
open Go.RowKit
attribute [local go_sem ↓] Go.wp_at_zero Go.wp_at_succ
theorem Tryz.entSize : (Tryz.prog.info? 102).map (·.size) = some 4 := by kernel_rfl
theorem Sl.oneN {F : Nat → Prop} {w : World} {b : Nat} {t : TypeId} {fz : Nat × Nat} {z : Int} {n : Nat} (h : w.heap[b]? = some (.cells #[.int .i64 z] t fz)) (hz : z = (n : Int)) (hF : ¬ F b) : Sl F w 1 encN (.slice (some ⟨b, 0, none⟩) 1 1) [n] := by
  subst hz
  exact Sl.one h hF
theorem Sl.cellN {F : Nat → Prop} {w : World} {a : Option Addr} {n c : Nat} {l : List Nat} (h : Sl F w 1 encN (.slice a n c) l) {j : Nat} (hj : j < l.length) : ∃ b off, a = some ⟨b, off, none⟩ ∧ ¬ F b ∧ w.cell? ⟨b, off + j, none⟩ = some (.int .i64 (l.getD j 0 : Nat)) := by
  obtain ⟨a', c', e1, _, _, _, e5⟩ := h
  injection e1 with e1 _ _
  subst e1
  obtain ⟨b, off, ha, _, hF, hc⟩ := Sl.at e5 (Mods.refl F w) (fun _ _ h => h) j hj
  refine ⟨b, off, ha, hF, ?_⟩
  have h1 := hc 0 (.int .i64 (l[j] : Int)) rfl
  have h2 : l.getD j 0 = l[j] := by simp [List.getD, hj]
  rw [h2]
  simpa using h1
theorem Sl.cellA {F : Nat → Prop} {w : World} {b off n c : Nat} {l : List Nat} (h : Sl F w 1 encN (.slice (some ⟨b, off, none⟩) n c) l) {j : Nat} (hj : j < l.length) : w.cell? ⟨b, off + j, none⟩ = some (.int .i64 (l.getD j 0 : Nat)) := by
  obtain ⟨b', off', e, _, h2⟩ := h.cellN hj
  injection e with e
  injection e with e1 e2
  subst e1 e2
  exact h2
theorem idsK_snoc (a k : Nat) : idsK a (k + 1) = idsK a k ++ [k + (a + 2)] := by
  unfold idsK
  rw [List.range_succ, List.map_append]
  rfl
/-- while a chain's Ids are told. -/
structure ChS (w w1 : World) (x : PairS) : Prop where
  ext : Ext w w1
  box : Blk w1 w.heap.size #[.string x.1, .string x.2] 38
  res : Blk w1 (w.heap.size + 1) #[.string ⟨#[]⟩, .string ⟨#[]⟩, .int .i64 0, .int .i64 0] 102
section
variable {w w' w1 w2 : World} {x : PairS} {G : Nat → Prop}
theorem ChS.step (h : ChS w w1 x) (m : Ext w1 w2) : ChS w w2 x := ⟨h.ext.trans m, h.box.ext m, h.res.ext m⟩
theorem ChS.mods (h : ChS w w1 x) (m : Mods G w1 w2) (hG : ∀ k, G k → w.heap.size + 2 ≤ k) : ChS w w2 x :=
  ⟨Mods.past h.ext (m.mono (fun k hk => by have := hG k hk; omega)), h.box.mods m (fun g => by have := hG _ g; omega), h.res.mods m (fun g => by have := hG _ g; omega)⟩
/-- an entry, and its chain's pages. -/
def Chained (w : World) (x : PairS) (id gen : Nat) (e : Ending) (w' : World) : Prop :=
  ∃ pv xs, e = .returned (.tuple #[.agg #[.string (entryA x id).key, .string (entryA x id).value, .int .i64 (entryA x id).chain, .int .i64 (entryA x id).size], pv]) ∧ PgsR w' w.heap.size pv xs ∧ xs.map (·.1) = chPages gen x id ∧ Ext w w'
end
end Go.Proofs.YtffhiabonigapaaGreatDoor
namespace Go.Proofs.YtffhiabonigapaaGreatDoor
open Go.RowKit
theorem chunkA_snoc (gen : Nat) : ∀ (c : List PairS) (x : PairS) (id : Nat), chunkA gen (c ++ [x]) id = ((chunkA gen c id).1 ++ [entryA x (id + (chunkA gen c id).2.length)], (chunkA gen c id).2 ++ chPages gen x (id + (chunkA gen c id).2.length))
  | [], x, id => by simp [chunkA]
  | y :: c, x, id => by
    have h := chunkA_snoc gen c x (id + chN y)
    rw [List.cons_append, chunkA, h, chunkA]
    simp only [List.length_append, chPages_len, List.cons_append, List.append_assoc, Nat.add_assoc]
theorem chunkA_take (gen : Nat) (c : List PairS) (j : Nat) (x : PairS) (id : Nat) (h : c[j]? = some x) : chunkA gen (c.take (j + 1)) id = ((chunkA gen (c.take j) id).1 ++ [entryA x (id + (chunkA gen (c.take j) id).2.length)], (chunkA gen (c.take j) id).2 ++ chPages gen x (id + (chunkA gen (c.take j) id).2.length)) := by
  rw [take_one _ _ _ h, chunkA_snoc]
theorem chPages_few (gen : Nat) {x : PairS} (h : x.2.size ≤ 4096) (id : Nat) : (chPages gen x id).length ≤ 18 := by
  rw [chPages_len]
  unfold chN
  split
  · omega
  · exact ndK_le _ h
theorem chunkA_few (gen : Nat) : ∀ (c : List PairS) (id : Nat), (∀ x ∈ c, x.2.size ≤ 4096) → (chunkA gen c id).2.length ≤ 18 * c.length
  | [], _, _ => by simp [chunkA]
  | x :: c, id, h => by
    have h1 := chunkA_few gen c (id + chN x) (fun y hy => h y (List.mem_cons_of_mem _ hy))
    have h2 := chPages_few gen (h x List.mem_cons_self) id
    rw [chunkA, List.length_append, List.length_cons]
    omega
theorem leavesA_nil (gen many f id : Nat) : leavesA gen many f [] id = ([], []) := by cases f <;> rfl
theorem leavesA_step (gen many f : Nat) (x : PairS) (l : List PairS) (id : Nat) : leavesA gen many (f + 1) (x :: l) id = ((id, x.1) :: (leavesA gen many f ((x :: l).drop many) (id + (leafPages gen ((x :: l).take many) id).length)).1, leafPages gen ((x :: l).take many) id ++ (leavesA gen many f ((x :: l).drop many) (id + (leafPages gen ((x :: l).take many) id).length)).2) := rfl
theorem entryA_small {x : PairS} (hk : keyB x.1 = true) (hs : x.2.size ≤ 4096) {id : Nat} (hid : id < 4294967296) : (entryA x id).key.size < 256 ∧ (entryA x id).value.size < 256 ∧ 0 ≤ (entryA x id).chain ∧ (entryA x id).chain < 4294967296 ∧ 0 ≤ (entryA x id).size ∧ (entryA x id).size < 4294967296 := by
  have := (keyB_iff x.1).1 hk
  unfold entryA
  split
  · simp only; omega
  · simp only
    refine ⟨by omega, by show (0 : Nat) < 256; omega, by omega, by omega, by omega, by omega⟩
theorem entryA_len {x : PairS} (hk : keyB x.1 = true) (id : Nat) (hid : 0 < id) : (bytesE (entryA x id)).length ≤ 59 := by
  have := (keyB_iff x.1).1 hk
  unfold entryA bytesE
  split
  · simp only [if_true, List.length_append, bytesT_len, leB_length]; omega
  · simp only
    rw [if_neg (by omega)]
    simp only [List.length_append, bytesT_len, leB_length]; omega
theorem chunkA_mem (gen : Nat) : ∀ (c : List PairS) (id : Nat) (e : EntryA), (∀ x ∈ c, x.2.size ≤ 4096) → e ∈ (chunkA gen c id).1 → ∃ x ∈ c, ∃ id', id ≤ id' ∧ id' ≤ id + 18 * c.length ∧ e = entryA x id'
  | [], _, _, _, h => by simp [chunkA] at h
  | x :: c, id, e, hs, h => by
    rw [chunkA] at h
    rcases List.mem_cons.1 h with rfl | h
    · exact ⟨x, List.mem_cons_self, id, by omega, by omega, rfl⟩
    · obtain ⟨y, hy, id', h1, h2, h3⟩ := chunkA_mem gen c _ e (fun y hy => hs y (List.mem_cons_of_mem _ hy)) h
      have h4 := chPages_few gen (hs x List.mem_cons_self) id
      rw [chPages_len] at h4
      exact ⟨y, List.mem_cons_of_mem _ hy, id', by omega, by rw [List.length_cons]; omega, h3⟩
/-- the leaf of a chunk. -/
def leafN (gen : Nat) (c : List PairS) (id : Nat) : NodeA := ⟨true, (chunkA gen c (id + 1)).1, [], []⟩
theorem leafN_ok (gen : Nat) {c : List PairS} (hk : PairsOk c) (hc : c.length ≤ 1000) (id : Nat) (hid : id ≤ 1000000) : okB (leafN gen c id) ∧ (bytesN (leafN gen c id)).length ≤ 100000 := by
  have hl : (leafN gen c id).leaf = true := rfl
  have hen : (leafN gen c id).entries.length = c.length := chunkA_len gen c (id + 1)
  have hm : ∀ e ∈ (leafN gen c id).entries, ∃ x ∈ c, ∃ id', id + 1 ≤ id' ∧ id' ≤ id + 1 + 18 * c.length ∧ e = entryA x id' := fun e he => chunkA_mem gen c (id + 1) e (fun x hx => (hk x hx).2) he
  constructor
  · unfold okB
    rw [if_pos hl]
    refine ⟨by omega, fun k e he => ?_⟩
    obtain ⟨x, hx, id', h1, h2, rfl⟩ := hm e (List.mem_of_getElem? he)
    exact entryA_small (hk x hx).1 (hk x hx).2 (by omega)
  · have h1 := flat_len bytesE 59 (leafN gen c id).entries (fun e he => by
      obtain ⟨x, hx, id', h1, h2, rfl⟩ := hm e he
      exact entryA_len (hk x hx).1 id' (by omega))
    unfold bytesN
    rw [if_pos hl, List.length_append, leB_length]
    omega
end Go.Proofs.YtffhiabonigapaaGreatDoor
namespace Go.Proofs.YtffhiabonigapaaGreatDoor
open Go.RowKit
end Go.Proofs.YtffhiabonigapaaGreatDoor
