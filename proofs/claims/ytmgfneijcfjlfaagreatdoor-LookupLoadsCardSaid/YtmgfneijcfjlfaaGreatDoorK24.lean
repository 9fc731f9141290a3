/- node.Find's closures, node.first, node.Find. | node.Find's answer in the words of the tree. Plain. | Trees on what is known of a pager: a page's node, the way to a key, what stands there. Plain. | Many pages, put one behind the other: what is known then. Plain. | node.kid, node.entry; leaf's and inner's closures; node.rising. | node.rising at entries and at texts; slices.Index, Contains at []int. -/
import Derived.Test.YtmgfneijcfjlfaaGreatDoorK08
import Derived.Test.YtmgfneijcfjlfaaGreatDoorK14
import Derived.BigQuiet
import Derived.Test.YtmgfneijcfjlfaaGreatDoorK21
import Derived.Test.YtmgfneijcfjlfaaGreatDoorK20
import Derived.Test.YtmgfneijcfjlfaaGreatDoorK06
import Derived.Deep.DrawnRows
import Derived.Deep.RegionHeld3
import Derived.IntWalk
namespace Go.Proofs.YtmgfneijcfjlfaaGreatDoor
open Go.RowKit
section
variable {F : Nat → Prop} {ad : Nat → Addr} {w w' : World}
theorem find1_any (kb : Nat) (e : EntryA) (key : ByteArray) (hk : w.cell? ⟨kb, 0, none⟩ = some (.string key)) :
    Calls Tryz.prog 73 #[.agg #[.string e.key, .string e.value, .int .i64 e.chain, .int .i64 e.size], .pointer (some ⟨kb, 0, none⟩)] w fun x w' => x = .returned (.bool (!ltS e.key key)) ∧ Ext w w' := by
  have hlt := cell_lt hk
  have hk0 : (w.alloc (.cells #[.string e.key, .string e.value, .int .i64 e.chain, .int .i64 e.size] 107)).cell? ⟨kb, 0, none⟩ = some (.string key) := cellE ((Mods.refl _ w).alloc _) hk
  go_enter Tryz.func73, Tryz.ntmps73
  go_wp2_with fail
  go_ret
  exact ⟨rfl, (Mods.refl _ w).alloc _⟩
theorem find2_any (kb : Nat) (k : ByteArray) (key : ByteArray) (hk : w.cell? ⟨kb, 0, none⟩ = some (.string key)) :
    Calls Tryz.prog 75 #[.string k, .pointer (some ⟨kb, 0, none⟩)] w fun x w' => x = .returned (.bool (!leS k key)) ∧ Ext w w' := by
  go_enter Tryz.func75, Tryz.ntmps75
  go_wp2_with fail
  go_ret
  exact ⟨ret_bool (by simp [leS]), Mods.refl _ _⟩
/-- the place of the first for which p holds. -/
theorem findIdx_yes {α : Type} {p : α → Bool} {l : List α} {k : Nat} (hk : k < l.length) (h : ∀ x ∈ l.take k, p x = false) (hp : p l[k] = true) : l.findIdx p = k := by
  rw [List.findIdx_eq hk]
  exact ⟨hp, fun j hj => h _ (List.mem_take_iff_getElem.2 ⟨j, by omega, rfl⟩)⟩
theorem findIdx_no {α : Type} {p : α → Bool} {l : List α} (h : ∀ x ∈ l, p x = false) : l.findIdx p = l.length := List.findIdx_eq_length.2 h
set_option maxRecDepth 100000 in
theorem firstE_any (kb : Nat) (key : ByteArray) (hk : w.cell? ⟨kb, 0, none⟩ = some (.string key)) (ve : Value) (l : List EntryA) (hve : Sl F w 4 encE ve l) :
    Calls Tryz.prog 72 #[ve, .func (.func 73) #[] #[.pointer (some ⟨kb, 0, none⟩)]] w fun x w' => x = .returned (.int .i64 (l.findIdx fun e => !ltS e.key key : Nat)) ∧ Ext w w' := by
  obtain ⟨ae, ce, rfl, he1, he2, he3, hee⟩ := hve
  unfold maxLen at he2
  go_enter Tryz.func72, Tryz.ntmps72
  go_wp2_with fail
  go_loopg [9] l.length (fun m i wr => ∃ k : Nat, k + m = l.length ∧ i = .int .i64 k ∧ Hid (∀ x ∈ l.take k, (!ltS x.key key) = false) ∧ Ext w wr)
  case atStart => exact ⟨0, by omega, rfl, Lib.hid (by simp), Mods.refl _ _⟩
  case round =>
    obtain ⟨k, hkm, rfl, HZ, hm⟩ := hrel
    by_cases hlt : k < l.length
    · obtain ⟨b, off, rfl, hb, hF, hc⟩ := Sl.at hee hm (fun _ _ f => f.elim) k hlt
      have c0 := hc 0 _ rfl
      simp only [Nat.add_zero] at c0
      have c1 := hc 1 _ rfl
      have c2 := hc 2 _ rfl
      have c3 := hc 3 _ rfl
      have hkb := cellE hm hk
      have HM := Lib.hid hm
      have HEE := Lib.hid hee
      have HK := Lib.hid hk
      clear hc hee hk hm
      have hkb2 := fun v => cellE ((Mods.refl _ wr).alloc v) hkb
      go_wp2_with fail
      refine (find1_any kb l[k] key (hkb2 _)).mono ?_
      rintro x w1 ⟨rfl, hm1⟩
      have HM1 : Hid (Ext w w1) := Lib.hid ((HM.out.alloc _).trans hm1)
      clear hm1 hkb hkb2
      cases ht : ltS l[k].key key
      · have HT := Lib.hid ht
        clear ht
        go_wp2_with fail
        go_ret
        exact ⟨by rw [findIdx_yes hlt HZ.out (by rw [HT.out]; rfl)]; rfl, HM1.out⟩
      · have HT := Lib.hid ht
        clear ht
        go_wp2_with fail
        go_roundg (gk - 1)
        case measure => omega
        case rel => exact ⟨k + 1, by omega, by go_num, Lib.hid (fun x hx => by
          rw [take_one l k l[k] (by simp [hlt])] at hx
          rcases List.mem_append.1 hx with h | h
          · exact HZ.out x h
          · rw [List.mem_singleton.1 h, HT.out]; rfl), HM1.out⟩
    · have hke : k = l.length := by omega
      go_wp2_with fail
      go_ret
      exact ⟨by rw [findIdx_no (by have := HZ.out; rwa [hke, List.take_length] at this)]; rfl, hm⟩
set_option maxRecDepth 100000 in
theorem firstS_any (kb : Nat) (key : ByteArray) (hk : w.cell? ⟨kb, 0, none⟩ = some (.string key)) (ve : Value) (l : List ByteArray) (hve : Sl F w 1 encS ve l) :
    Calls Tryz.prog 74 #[ve, .func (.func 75) #[] #[.pointer (some ⟨kb, 0, none⟩)]] w fun x w' => x = .returned (.int .i64 (l.findIdx fun k => !leS k key : Nat)) ∧ Ext w w' := by
  obtain ⟨ae, ce, rfl, he1, he2, he3, hee⟩ := hve
  unfold maxLen at he2
  go_enter Tryz.func74, Tryz.ntmps74
  go_wp2_with fail
  go_loopg [9] l.length (fun m i wr => ∃ k : Nat, k + m = l.length ∧ i = .int .i64 k ∧ Hid (∀ x ∈ l.take k, (!leS x key) = false) ∧ Ext w wr)
  case atStart => exact ⟨0, by omega, rfl, Lib.hid (by simp), Mods.refl _ _⟩
  case round =>
    obtain ⟨k, hkm, rfl, HZ, hm⟩ := hrel
    by_cases hlt : k < l.length
    · obtain ⟨b, off, rfl, hb, hF, hc⟩ := Sl.at hee hm (fun _ _ f => f.elim) k hlt
      have c0 := hc 0 _ rfl
      simp only [Nat.add_zero, Nat.mul_one] at c0
      have hkb := cellE hm hk
      have HM := Lib.hid hm
      have HEE := Lib.hid hee
      have HK := Lib.hid hk
      clear hc hee hk hm
      go_wp2_with fail
      refine (find2_any kb l[k] key hkb).mono ?_
      rintro x w1 ⟨rfl, hm1⟩
      have HM1 : Hid (Ext w w1) := Lib.hid (HM.out.trans hm1)
      clear hm1 hkb
      cases ht : leS l[k] key
      · have HT := Lib.hid ht
        clear ht
        go_wp2_with fail
        go_ret
        exact ⟨by rw [findIdx_yes hlt HZ.out (by rw [HT.out]; rfl)]; rfl, HM1.out⟩
      · have HT := Lib.hid ht
        clear ht
        go_wp2_with fail
        go_roundg (gk - 1)
        case measure => omega
        case rel => exact ⟨k + 1, by omega, by go_num, Lib.hid (fun x hx => by
          rw [take_one l k l[k] (by simp [hlt])] at hx
          rcases List.mem_append.1 hx with h | h
          · exact HZ.out x h
          · rw [List.mem_singleton.1 h, HT.out]; rfl), HM1.out⟩
    · have hke : k = l.length := by omega
      go_wp2_with fail
      go_ret
      exact ⟨by rw [findIdx_no (by have := HZ.out; rwa [hke, List.take_length] at this)]; rfl, hm⟩
theorem keyEq (a b : ByteArray) : (a.toList == b.toList) = decide (a = b) := by
  by_cases h : a = b
  · rw [h]; simp
  · rw [decide_eq_false h, beq_eq_false_iff_ne]
    intro e
    rw [ByteArray.toList_eq, ByteArray.toList_eq] at e
    exact h (ByteArray.ext (Array.toList_inj.1 e))
/-- where a key belongs in a node; and whether it is there. -/
def findN (n : NodeA) (key : ByteArray) : Nat × Bool :=
  if n.leaf then
    let i := n.entries.findIdx fun e => !ltS e.key key
    (i, match n.entries[i]? with | some e => decide (e.key = key) | none => false)
  else (n.keys.findIdx fun k => !leS k key, false)
set_option maxRecDepth 100000 in
theorem findNode_any (n : NodeA) (key : ByteArray) (ve vk vi : Value) (hve : Sl F w 4 encE ve n.entries) (hvk : Sl F w 1 encS vk n.keys) :
    Calls Tryz.prog 41 #[.agg #[.bool n.leaf, ve, vk, vi], .string key] w fun x w' => x = .returned (.tuple #[.int .i64 ((findN n key).1 : Nat), .bool (findN n key).2]) ∧ Ext w w' := by
  have m0 : Ext w ((w.alloc (.cells #[.bool n.leaf, ve, vk, vi] 57)).alloc (.cells #[.string key] 9)) := ((Mods.refl _ w).alloc _).alloc _
  have HE := Lib.hid (hve.ext m0)
  have HK := Lib.hid (hvk.ext m0)
  have M0 := Lib.hid m0
  clear hve hvk m0
  cases hleaf : n.leaf
  · have HR : Hid (findN n key = (n.keys.findIdx fun k => !leS k key, false)) := Lib.hid (by unfold findN; rw [hleaf]; rfl)
    rw [hleaf] at HE HK M0
    clear hleaf
    go_enter Tryz.func41, Tryz.ntmps41
    go_wp2_with fail
    refine (firstS_any (w.heap.size + 1) key (by go_cell) vk n.keys HK.out).mono ?_
    rintro x w1 ⟨rfl, hm1⟩
    have HM1 := Lib.hid (M0.out.trans hm1)
    clear hm1
    go_wp2_with fail
    go_ret2
    exact ⟨by rw [HR.out]; rfl, HM1.out⟩
  · rw [hleaf] at HE HK M0
    have HL := Lib.hid hleaf
    clear hleaf
    obtain ⟨q, hq⟩ : ∃ q, q = n.entries.findIdx fun e => !ltS e.key key := ⟨_, rfl⟩
    have HR : Hid (findN n key = (q, match n.entries[q]? with | some e => decide (e.key = key) | none => false)) := Lib.hid (by unfold findN; rw [HL.out, hq]; rfl)
    have HQ := Lib.hid hq
    clear hq
    obtain ⟨ae, ce, rfl, he1, he2, he3, hee⟩ := _root_.id HE.out
    have HEE := Lib.hid hee
    clear hee
    by_cases hlt : q < n.entries.length
    · go_enter Tryz.func41, Tryz.ntmps41
      go_wp2_with fail
      refine (firstE_any (w.heap.size + 1) key (by go_cell) _ n.entries HE.out).mono ?_
      rintro x w1 ⟨rfl, hm1⟩
      rw [← HQ.out]
      have HM1 := Lib.hid (M0.out.trans hm1)
      obtain ⟨b, off, rfl, hb, hF, hc⟩ := Sl.at HEE.out hm1 (fun _ _ f => f.elim) q hlt
      have c0 := hc 0 _ rfl
      simp only [Nat.add_zero] at c0
      have x1 : w1.cell? ⟨w.heap.size, 1, none⟩ = some (.slice (some ⟨b, off, none⟩) n.entries.length ce) := cellE hm1 (by go_cell)
      have x2 : w1.cell? ⟨w.heap.size + 1, 0, none⟩ = some (.string key) := cellE hm1 (by go_cell)
      have hd : decide ((q : Int) < (n.entries.length : Int)) = true := decide_eq_true (by omega)
      have HG : Hid (n.entries[q]? = some n.entries[q]) := Lib.hid (List.getElem?_eq_getElem hlt)
      clear hm1 hc
      go_wp2_with fail
      go_quiet (fail)
      go_wp2_with fail
      go_ret2
      exact ⟨by rw [keyEq, HR.out, HG.out]; rfl, HM1.out.drewN _⟩
    · go_enter Tryz.func41, Tryz.ntmps41
      go_wp2_with fail
      refine (firstE_any (w.heap.size + 1) key (by go_cell) _ n.entries HE.out).mono ?_
      rintro x w1 ⟨rfl, hm1⟩
      rw [← HQ.out]
      have HM1 := Lib.hid (M0.out.trans hm1)
      have x1 : w1.cell? ⟨w.heap.size, 1, none⟩ = some (.slice ae n.entries.length ce) := cellE hm1 (by go_cell)
      have hd : decide ((q : Int) < (n.entries.length : Int)) = false := decide_eq_false (by omega)
      have HG : Hid (n.entries[q]? = none) := Lib.hid (List.getElem?_eq_none (by omega))
      clear hm1
      go_wp2_with fail
      go_quiet (fail)
      go_wp2_with fail
      go_ret2
      exact ⟨by rw [HR.out, HG.out]; rfl, HM1.out.drewN _⟩
end
end Go.Proofs.YtmgfneijcfjlfaaGreatDoor
namespace Go.Proofs.YtmgfneijcfjlfaaGreatDoor
theorem notLe (a b : ByteArray) : (!leS a b) = ltS b a := by
  cases h : ltS b a with
  | true =>
    rw [Bool.not_eq_true', ← Bool.not_eq_true]
    intro e
    rcases (leS_iff a b).1 e with k | k
    · rw [ltS_asymm h] at k; cases k
    · rw [k, ltS_irrefl] at h; cases h
  | false =>
    rw [Bool.not_eq_false', leS_iff]
    exact (not_ltS h).imp id Eq.symm
theorem findN_leaf {n : NodeA} (h : n.leaf = true) (key : ByteArray) : findN n key = (entAt key n.entries, entIs key n.entries) := by
  unfold findN
  rw [h]
  rfl
theorem findN_inner {n : NodeA} (h : n.leaf = false) (key : ByteArray) : findN n key = (kidAt key n.keys, false) := by
  have e : (fun k => !leS k key) = fun s => ltS key s := by funext s; exact notLe s key
  unfold findN kidAt
  rw [h, e]
  rfl
end Go.Proofs.YtmgfneijcfjlfaaGreatDoor
namespace Go.Proofs.YtmgfneijcfjlfaaGreatDoor
open Go.RowKit

/-- a page's node. -/
def decodeA (p : PageA) : NodeA ⊕ Err :=
  if p.kind = 3 ∨ p.kind = 2 then (match getN (decide (p.kind = 3)) p.body with | some n => .inl n | none => .inr ([pgOf p.id], 5)) else .inr ([pgOf p.id], 5)
def GA.load (G : GA) (id : Int) : NodeA ⊕ Err :=
  match G.get id with
  | .inr (l, k) => .inr (-1 :: l, k)
  | .inl p => match decodeA p with
    | .inl n => .inl n
    | .inr (l, k) => .inr (-1 :: l, k)
/-- the steps to a leaf, and the leaf; or why there is none. -/
def findA (G : GA) (key : ByteArray) : Nat → List (Int × Nat) → Int → (List (Int × Nat) × NodeA) ⊕ Err
  | 0, _, id => .inr ([pgOf id], 5)
  | f + 1, st, id => match G.load id with
    | .inr e => .inr e
    | .inl n => if n.leaf then .inl (st ++ [(id, (findN n key).1)], n) else findA G key f (st ++ [(id, (findN n key).1)]) (n.kids.getD (findN n key).1 0)
def findOk (G : GA) (key : ByteArray) : Nat → Int → Prop
  | 0, _ => True
  | f + 1, id => G.knows id ∧ ∀ n, G.load id = .inl n → n.leaf = false → findOk G key f (n.kids.getD (findN n key).1 0)
/-- an entry's value. -/
def valueA (G : GA) (e : EntryA) : ByteArray ⊕ Err :=
  if e.chain = 0 then .inl e.value else match chErr G e.chain e.size with
    | none => .inl ⟨((walkA G e.size.toNat e.chain e.size).1.flatMap (·.2)).toArray⟩
    | some (l, k) => .inr (-1 :: l, k)
def valueOk (G : GA) (e : EntryA) : Prop := e.chain ≠ 0 → 25 ≤ e.size → e.size ≤ 4096 → walkOk G e.size.toNat e.chain e.size
/-- lookup.Path: the steps, and whether the key stands there. -/
def pathA (G : GA) (root : Int) (key : ByteArray) : (List (Int × Nat) × Bool) ⊕ Err :=
  match lkCheck key with
  | some e => .inr e
  | none => if root = 0 then .inl ([], false) else match findA G key 16 [] root with
    | .inr (l, k) => .inr (-1 :: l, k)
    | .inl (st, n) => .inl (st, (findN n key).2)
/-- lookup.Get: the value, if the key stands there. -/
def lookA (G : GA) (root : Int) (key : ByteArray) : Option ByteArray ⊕ Err :=
  match lkCheck key with
  | some e => .inr e
  | none => if root = 0 then .inl none else match findA G key 16 [] root with
    | .inr (l, k) => .inr (-1 :: l, k)
    | .inl (_, n) => match n.entries[(findN n key).1]? with
      | none => .inl none
      | some e => if (findN n key).2 = true then (match valueA G e with | .inl v => .inl (some v) | .inr (l, k) => .inr (-1 :: l, k)) else .inl none
def lookOk (G : GA) (root : Int) (key : ByteArray) : Prop := findOk G key 16 root ∧ ∀ st n e, findA G key 16 [] root = .inl (st, n) → n.entries[(findN n key).1]? = some e → valueOk G e

theorem decodeA_right {p : PageA} {n : NodeA} (h : decodeA p = .inl n) : rightN n = true ∧ n.leaf = decide (p.kind = 3) := by
  unfold decodeA at h
  split at h
  · split at h
    · rename_i h1
      injection h with h; subst h
      unfold getN at h1
      simp only at h1
      split at h1
      · rename_i h2
        injection h1 with h1; subst h1
        refine ⟨h2.2.1, ?_⟩
        unfold rdNode
        simp only
        split
        · rename_i h3; simpa using h3.symm
        · rename_i h3; simpa using h3
      · cases h1
    · cases h
  · cases h
theorem GA.load_right {G : GA} {id : Int} {n : NodeA} (h : G.load id = .inl n) : rightN n = true := by
  unfold GA.load at h
  split at h
  · cases h
  · split at h
    · rename_i h1
      injection h with h; subst h
      exact (decodeA_right h1).1
    · cases h
theorem findA_right {G : GA} {key : ByteArray} : ∀ (f : Nat) (pre : List (Int × Nat)) (id : Int) {st : List (Int × Nat)} {n : NodeA}, findA G key f pre id = .inl (st, n) → rightN n = true ∧ n.leaf = true
  | 0, _, _, _, _, h => by cases h
  | f + 1, pre, id, st, n, h => by
    rw [findA] at h
    split at h
    · cases h
    · rename_i m hm
      split at h
      · rename_i hl
        injection h with h
        injection h with _ h
        subst h
        exact ⟨GA.load_right hm, hl⟩
      · exact findA_right f _ _ h
/-- a page's node, as it is seen. -/
def GA.node (G : GA) (id : Nat) : Option NodeA := if id < G.blocks then (match G.view id with
  | some (.inl p) => (match decodeA p with | .inl n => some n | .inr _ => none)
  | _ => none) else none
theorem GA.node_load {G : GA} {id : Nat} {n : NodeA} (h : G.node id = some n) : G.knows (id : Int) ∧ G.load (id : Int) = .inl n := by
  unfold GA.node at h
  split at h
  · rename_i hlt
    split at h
    · rename_i p hp
      refine ⟨fun _ => ⟨_, by rw [Int.toNat_natCast]; exact hp⟩, ?_⟩
      unfold GA.load
      rw [get_view hlt hp]
      simp only
      split at h
      · rename_i h1; injection h with h; subst h; rw [h1]
      · cases h
    · cases h
  · cases h
theorem kids_at {n : NodeA} {i : Nat} {k : Int} (h : n.kids[i]? = some k) : n.kids.getD i 0 = k := by
  simp [List.getD, h]
/-- a path is found. -/
theorem PathA.findA {G : GA} {key : ByteArray} {id d : Nat} {st : List (Nat × Nat)} {m : NodeA} (h : PathA G.node key id d st m) : ∀ (f : Nat) (pre : List (Int × Nat)), d ≤ f → (∀ id n k, G.node id = some n → k ∈ n.kids → 0 ≤ k) →
    Go.Proofs.YtmgfneijcfjlfaaGreatDoor.findA G key f pre (id : Int) = .inl (pre ++ st.map (fun x => ((x.1 : Int), x.2)), m) ∧ findOk G key f (id : Int) := by
  induction h with
  | @leaf id n h1 h2 =>
    intro f pre hf hk
    obtain ⟨f, rfl⟩ : ∃ g, f = g + 1 := ⟨f - 1, by omega⟩
    obtain ⟨k1, k2⟩ := GA.node_load h1
    refine ⟨?_, k1, fun n2 e hl => ?_⟩
    · rw [Go.Proofs.YtmgfneijcfjlfaaGreatDoor.findA, k2]
      simp only [h2, if_true, findN_leaf h2]
      rfl
    · rw [k2] at e
      injection e with e
      subst e
      rw [h2] at hl; cases hl
  | @inner id n d st m k h1 h2 h3 h4 ih =>
    intro f pre hf hk
    obtain ⟨f, rfl⟩ : ∃ g, f = g + 1 := ⟨f - 1, by omega⟩
    obtain ⟨k1, k2⟩ := GA.node_load h1
    have hk0 := hk _ n k h1 (List.mem_of_getElem? h3)
    obtain ⟨j1, j2⟩ := ih f (pre ++ [((id : Int), kidAt key n.keys)]) (by omega) hk
    have hkc : ((k.toNat : Nat) : Int) = k := by omega
    rw [hkc] at j1 j2
    have hkd := kids_at h3
    refine ⟨?_, k1, fun n2 e hl => ?_⟩
    · rw [Go.Proofs.YtmgfneijcfjlfaaGreatDoor.findA, k2]
      simp only [h2, Bool.false_eq_true, if_false, findN_inner h2, hkd]
      rw [j1]
      simp
    · rw [k2] at e
      injection e with e
      subst e
      rw [findN_inner h2]
      simp only [hkd]
      exact j2
theorem node_right {G : GA} {id : Nat} {n : NodeA} (h : G.node id = some n) : rightN n = true := GA.load_right (GA.node_load h).2
theorem node_kids {G : GA} (id : Nat) (n : NodeA) (k : Int) (h : G.node id = some n) (hk : k ∈ n.kids) : 0 ≤ k := by
  have hr := node_right h
  cases hl : n.leaf with
  | true =>
    unfold rightN at hr
    rw [if_pos hl] at hr
    simp only [Bool.and_eq_true, List.isEmpty_iff] at hr
    rw [hr.1.1.2] at hk
    cases hk
  | false =>
    have := (rightN_inner hr hl).2.2 k hk
    omega
/-- what a chain reads as. -/
def GA.R (G : GA) (c s : Int) : Option ByteArray := match chErr G c s with
  | none => some ⟨((walkA G s.toNat c s).1.flatMap (·.2)).toArray⟩
  | some _ => none
/-- what stands on pages one behind the other. -/
structure OnG (G : GA) (ps : List PageA) : Prop where
  size : G.size = 256
  b256 : G.blocks ≤ 256
  fit : 2 + ps.length ≤ G.blocks
  at_ : ∀ id p, pageAt ps id = some p → G.view id = some (.inl p)
theorem pageAt_lt {ps : List PageA} {id : Nat} {p : PageA} (h : pageAt ps id = some p) : 2 ≤ id ∧ id < 2 + ps.length := by
  unfold pageAt at h
  split at h
  · cases h
  · have := (List.getElem?_eq_some_iff.1 h).1
    omega
theorem OnG.holds {G : GA} {ps : List PageA} (h : OnG G ps) {gen : Nat} {c s : Int} {v : ByteArray} (hc : chainV ps gen c s v) : ∃ k : Nat, c = ((k + 2 : Nat) : Int) ∧ s = (v.size : Int) ∧ 25 ≤ v.size ∧ v.size ≤ 4096 ∧ Holds G gen v.data.toList k (ndK v.size) ∧ k + 2 + ndK v.size ≤ G.blocks := by
  obtain ⟨h1, h2, h3, k, h4, h5⟩ := hc
  refine ⟨k, h4, h1, h2, h3, fun i hi => ?_, ?_⟩
  · unfold PageK
    rw [h.size]
    exact h.at_ _ _ (h5 i hi)
  · have hn : 1 ≤ ndK v.size := by unfold ndK; omega
    have h6 := (pageAt_lt (h5 (ndK v.size - 1) (by omega))).2
    have := h.fit
    omega
theorem OnG.chain {G : GA} {ps : List PageA} (h : OnG G ps) {gen : Nat} {c s : Int} {v : ByteArray} (hc : chainV ps gen c s v) : G.R c s = some v ∧ walkOk G s.toNat c s := by
  obtain ⟨k, rfl, rfl, h25, h4096, hH, hb⟩ := h.holds hc
  have hl : v.data.toList.length = v.size := size_toList v
  have hf : Fit v.data.toList.length 228 (ndK v.size) := by rw [hl]; exact ndK_fit _ (by omega)
  have hs : G.size = 228 + 28 := h.size
  have hb2 := h.b256
  obtain ⟨w1, w2⟩ := walk_all hf hs hb hb2 hH
  have hz := chErr_holds hf hs hb hb2 hH (by omega) (by omega)
  rw [hl] at w1 w2 hz
  rw [Int.toNat_natCast]
  refine ⟨?_, w2⟩
  unfold GA.R
  rw [hz, Int.toNat_natCast, w1]
  simp only [Option.some.injEq]
  have e : ((List.range (ndK v.size)).map fun i => (((idsK k (ndK v.size)).getD i 0 : Nat) : Int)).length = ndK v.size := by simp
  apply ByteArray.ext
  have := pieces_all v.data.toList 228 (ndK v.size) (by rw [hl]; have := hf.last (i := ndK v.size - 1) (by unfold ndK; omega); rw [hl] at this; have e2 : ndK v.size = ndK v.size - 1 + 1 := by unfold ndK; omega
                                                        rw [e2, Nat.add_mul]; omega)
  simp only [List.flatMap_map]
  first | exact congrArg List.toArray this | (rw [← List.range_eq_range'] at this; exact congrArg List.toArray this) | (simp [Function.comp_def] at this ⊢; exact this)
theorem OnG.fits {G : GA} {ps : List PageA} (h : OnG G ps) (gen : Nat) : FitsR ps gen G.R := fun _ _ _ hc => (h.chain hc).1
theorem OnG.node {G : GA} {ps : List PageA} (h : OnG G ps) {id : Nat} {n : NodeA} (hn : nodeV ps id = some n) : G.node id = some n := by
  unfold nodeV at hn
  split at hn
  · rename_i p hp
    have hlt := pageAt_lt hp
    have hfit := h.fit
    unfold GA.node
    rw [if_pos (by omega), h.at_ _ _ hp]
    simp only
    unfold decodeA
    split at hn
    · rename_i h3
      rw [if_pos (.inl h3), decide_eq_true h3, hn]
    · rename_i h3
      split at hn
      · rename_i h2
        rw [if_pos (.inr h2), decide_eq_false h3, hn]
      · cases hn
  · cases hn
end Go.Proofs.YtmgfneijcfjlfaaGreatDoor
namespace Go.Proofs.YtmgfneijcfjlfaaGreatDoor
open Go.RowKit
def putsG (G : GA) : List PageA → GA
  | [] => G
  | p :: l => putsG (G.put p) l
def marksS (s : List Nat) : List PageA → List Nat
  | [] => s
  | p :: l => marksS (s.set p.id.toNat 1) l
theorem putsG_snoc : ∀ (l : List PageA) (G : GA) (p : PageA), putsG G (l ++ [p]) = (putsG G l).put p
  | [], _, _ => rfl
  | _ :: l, G, p => putsG_snoc l (G.put _) p
theorem marksS_snoc : ∀ (l : List PageA) (s : List Nat) (p : PageA), marksS s (l ++ [p]) = (marksS s l).set p.id.toNat 1
  | [], _, _ => rfl
  | _ :: l, s, p => marksS_snoc l (s.set _ 1) p
theorem putsG_same : ∀ (l : List PageA) (G : GA), (putsG G l).blocks = G.blocks ∧ (putsG G l).size = G.size ∧ (putsG G l).cost = G.cost + l.length
  | [], _ => ⟨rfl, rfl, rfl⟩
  | p :: l, G => by
    obtain ⟨h1, h2, h3⟩ := putsG_same l (G.put p)
    refine ⟨h1, h2, ?_⟩
    rw [putsG, h3, List.length_cons]
    show G.cost + 1 + l.length = _
    omega
theorem putsG_far : ∀ (l : List PageA) (G : GA) (i : Nat), (∀ p ∈ l, p.id.toNat ≠ i) → (putsG G l).view i = G.view i
  | [], _, _, _ => rfl
  | p :: l, G, i, h => by
    rw [putsG, putsG_far l _ i (fun q hq => h q (List.mem_cons_of_mem _ hq))]
    exact upd_ne _ _ (fun e => h p List.mem_cons_self e.symm)
/-- pages with Ids of their own. -/
def OwnIds (l : List PageA) : Prop := l.Pairwise fun a b => a.id.toNat ≠ b.id.toNat
theorem putsG_at : ∀ (l : List PageA) (G : GA) (p : PageA), OwnIds l → p ∈ l → (putsG G l).view p.id.toNat = some (.inl p)
  | [], _, _, _, h => by simp at h
  | q :: l, G, p, ho, h => by
    have h2 := List.pairwise_cons.1 ho
    rw [putsG]
    rcases List.mem_cons.1 h with rfl | h
    · rw [putsG_far l _ _ (fun q hq e => h2.1 q hq e.symm)]
      exact upd_self _ _ _
    · exact putsG_at l _ p h2.2 h
theorem marksS_len : ∀ (l : List PageA) (s : List Nat), (marksS s l).length = s.length
  | [], _ => rfl
  | p :: l, s => by rw [marksS, marksS_len l, List.length_set]
theorem marksS_far : ∀ (l : List PageA) (s : List Nat) (i : Nat), (∀ p ∈ l, p.id.toNat ≠ i) → (marksS s l)[i]? = s[i]?
  | [], _, _, _ => rfl
  | p :: l, s, i, h => by
    rw [marksS, marksS_far l _ i (fun q hq => h q (List.mem_cons_of_mem _ hq)), List.getElem?_set_ne (h p List.mem_cons_self)]
/-- pages that can be put on a disk of n blocks of 256 bytes. -/
structure PutsOk (n : Nat) (l : List PageA) : Prop where
  own : OwnIds l
  id : ∀ p ∈ l, 2 ≤ p.id ∧ p.id < (n : Int)
  gen : ∀ p ∈ l, p.gen < 18446744073709551616
  ok : ∀ p ∈ l, pgCheck p 256 = none
theorem PutsOk.new {n : Nat} {l : List PageA} (h : PutsOk n l) (_hn : 8 ≤ n) {i : Nat} {p : PageA} (hp : l[i]? = some p) : spMark (marksS (spNew n) (l.take i)) p.id = (marksS (spNew n) (l.take (i + 1)), none) := by
  have hm := List.mem_of_getElem? hp
  obtain ⟨h1, h2⟩ := h.id p hm
  have hlen : (marksS (spNew n) (l.take i)).length = n := by rw [marksS_len]; simp [spNew]
  have hc : spCheck (marksS (spNew n) (l.take i)) p.id = none := by
    unfold spCheck
    rw [if_neg (by rw [hlen]; omega)]
  have hz : (marksS (spNew n) (l.take i))[p.id.toNat]? = some 0 := by
    rw [marksS_far]
    · unfold spNew
      rw [List.getElem?_set_ne (by omega), List.getElem?_set_ne (by omega), List.getElem?_replicate, if_pos (by omega)]
    · intro q hq
      obtain ⟨j, hj, e⟩ := List.getElem_of_mem hq
      rw [List.getElem_take] at e
      simp only [List.length_take] at hj
      obtain ⟨hi, e2⟩ := List.getElem?_eq_some_iff.1 hp
      have := List.pairwise_iff_getElem.1 h.own j i (by omega) hi (by omega)
      rw [e, e2] at this
      exact this
  unfold spMark
  rw [hc]
  simp only [hz, if_true]
  rw [take_one l i p hp, marksS_snoc]
theorem PutsOk.put {l : List PageA} {i : Nat} {p : PageA} (hp : l[i]? = some p) (G : GA) : (putsG G (l.take i)).put p = putsG G (l.take (i + 1)) := by
  rw [take_one l i p hp, putsG_snoc]
/-- pages one behind the other, from 2 on. -/
theorem onG_puts {n : Nat} (hn : n ≤ 256) {ps : List PageA} (h : ∀ (j : Nat) (p : PageA), ps[j]? = some p → p.id = ((2 + j : Nat) : Int)) (hl : 2 + ps.length ≤ n) : OwnIds ps ∧ OnG (putsG (G0 n) ps) ps := by
  have ho : OwnIds ps := List.pairwise_iff_getElem.2 (fun i j hi hj hij => by
    have h1 := h i _ (List.getElem?_eq_getElem hi)
    have h2 := h j _ (List.getElem?_eq_getElem hj)
    rw [h1, h2]
    omega)
  obtain ⟨h1, h2, _⟩ := putsG_same ps (G0 n)
  refine ⟨ho, h2, by rw [h1]; exact hn, by rw [h1]; exact hl, fun id p hp => ?_⟩
  unfold pageAt at hp
  split at hp
  · cases hp
  · have e := h _ p hp
    have e2 : id = p.id.toNat := by rw [e]; omega
    rw [e2]
    exact putsG_at ps (G0 n) p ho (List.mem_of_getElem? hp)
theorem fit_puts {n gen : Nat} (hn : n ≤ 256) (hg : gen < 18446744073709551616) {ps : List PageA} (h : ∀ (j : Nat) (p : PageA), ps[j]? = some p → PgFit gen (2 + j) p) (hl : 2 + ps.length ≤ n) : PutsOk n ps ∧ OnG (putsG (G0 n) ps) ps := by
  obtain ⟨h1, h2⟩ := onG_puts hn (fun j p hp => (h j p hp).1) hl
  have hm : ∀ p ∈ ps, ∃ j, j < ps.length ∧ PgFit gen (2 + j) p := fun p hp => by
    obtain ⟨j, hj, e⟩ := List.getElem_of_mem hp
    exact ⟨j, hj, h j p (by rw [← e]; exact List.getElem?_eq_getElem hj)⟩
  refine ⟨⟨h1, fun p hp => ?_, fun p hp => ?_, fun p hp => ?_⟩, h2⟩
  · obtain ⟨j, hj, k1, _⟩ := hm p hp
    omega
  · obtain ⟨j, hj, _, k2, _⟩ := hm p hp
    omega
  · obtain ⟨j, hj, k1, k2, k3, k4⟩ := hm p hp
    unfold pgCheck
    rw [if_neg (by decide), if_neg]
    have hk : kindB p.kind = true := by
      unfold kindB
      rcases k3 with k3 | k3 | k3 <;> rw [k3] <;> decide
    rw [hk]
    simp
    omega
/-- a block that nothing was put on can't be read. -/
theorem puts_none {n : Nat} {ps : List PageA} {i : Nat} (hi : i < n) (h : ∀ p ∈ ps, p.id.toNat ≠ i) : (putsG (G0 n) ps).knows (i : Int) ∧ ∃ l, (putsG (G0 n) ps).get (i : Int) = .inr (l, 5) := by
  obtain ⟨l, hl⟩ := open_zero (i : Int)
  have hv : (putsG (G0 n) ps).view i = some (.inr (l, 5)) := by
    rw [putsG_far ps _ i h]
    show (if i < n then some (openAtP z256 i) else none) = _
    rw [if_pos hi, hl]
  refine ⟨fun _ => ⟨_, by rw [Int.toNat_natCast]; exact hv⟩, -1 :: l, get_bad (by rw [(putsG_same ps (G0 n)).1]; exact hi) hv⟩
/-- all pages are known. -/
def GA.total (G : GA) : Prop := ∀ i, i < G.blocks → ∃ r, G.view i = some r
theorem GA.total.knows {G : GA} (h : G.total) (id : Int) : G.knows id := fun hc => by
  unfold GA.check at hc
  split at hc
  · cases hc
  · exact h _ (by omega)
theorem GA.total.walk {G : GA} (h : G.total) : ∀ (f : Nat) (id n : Int), walkOk G f id n
  | 0, _, _ => trivial
  | f + 1, id, n => by
    rw [walkOk]
    exact fun _ => ⟨h.knows id, fun x _ _ => GA.total.walk h f _ _⟩
theorem G0_total (n : Nat) : (G0 n).total := fun i hi => by
  have h : i < n := hi
  exact ⟨openAtP z256 (i : Int), by show (if i < n then some (openAtP z256 (i : Int)) else none) = _; rw [if_pos h]⟩
theorem put_total {G : GA} (h : G.total) (p : PageA) : (G.put p).total := fun i hi => by
  show ∃ r, upd G.view p.id.toNat (some (.inl p)) i = some r
  by_cases e : i = p.id.toNat
  · subst e; rw [upd_self]; exact ⟨_, rfl⟩
  · rw [upd_ne _ _ e]; exact h i hi
theorem puts_total : ∀ (ps : List PageA) {G : GA}, G.total → (putsG G ps).total
  | [], _, h => h
  | p :: ps, _, h => puts_total ps (put_total h p)
theorem GA.total.find {G : GA} (h : G.total) (key : ByteArray) : ∀ (f : Nat) (id : Int), findOk G key f id
  | 0, _ => trivial
  | f + 1, id => ⟨h.knows id, fun _ _ _ => GA.total.find h key f _⟩
theorem GA.total.value {G : GA} (h : G.total) (e : EntryA) : valueOk G e := fun _ _ _ => h.walk _ _ _
theorem GA.total.look {G : GA} (h : G.total) (root : Int) (key : ByteArray) : lookOk G root key := ⟨h.find key 16 root, fun _ _ e _ _ => h.value e⟩
theorem G0_puts_total (n : Nat) (ps : List PageA) : (putsG (G0 n) ps).total := puts_total ps (G0_total n)
end Go.Proofs.YtmgfneijcfjlfaaGreatDoor
namespace Go.Proofs.YtmgfneijcfjlfaaGreatDoor
open Go.RowKit
attribute [local go_sem ↓] Go.wp_at_zero Go.wp_at_succ
theorem rising_iff : ∀ {l : List ByteArray}, risingS l = true ↔ ∀ (i : Nat) (a b : ByteArray), l[i]? = some a → l[i + 1]? = some b → ltS a b = true
  | [] => by simp [risingS]
  | [_] => by simp [risingS]
  | x :: y :: l => by
    rw [risingS, Bool.and_eq_true, rising_iff (l := y :: l)]
    constructor
    · rintro ⟨h1, h2⟩ i a b ha hb
      cases i with
      | zero => simp at ha hb; subst ha hb; exact h1
      | succ i => exact h2 i a b (by simpa using ha) (by simpa using hb)
    · intro h
      exact ⟨h 0 x y rfl rfl, fun i a b ha hb => h (i + 1) a b (by simpa using ha) (by simpa using hb)⟩
/-- so far each is greater than the one ahead. -/
def upTo (l : List ByteArray) (k : Nat) : Prop := ∀ (i : Nat) (a b : ByteArray), i + 1 < k → l[i]? = some a → l[i + 1]? = some b → ltS a b = true
theorem upTo_all {l : List ByteArray} {k : Nat} (h : upTo l k) (hk : l.length ≤ k) : risingS l = true :=
  rising_iff.2 fun i a b ha hb => h i a b (by have := (List.getElem?_eq_some_iff.1 hb).1; omega) ha hb
theorem upTo_step {l : List ByteArray} {k : Nat} {a b : ByteArray} (h : upTo l (k + 1)) (ha : l[k]? = some a) (hb : l[k + 1]? = some b) (hl : leS b a = false) : upTo l (k + 2) := by
  intro i x y hi hx hy
  by_cases e : i = k
  · subst e
    rw [ha] at hx; rw [hb] at hy
    injection hx with hx; injection hy with hy
    subst hx hy
    have := notLe b a
    rw [hl] at this
    exact this.symm
  · exact h i x y (by omega) hx hy
theorem not_rising {l : List ByteArray} {k : Nat} {a b : ByteArray} (ha : l[k]? = some a) (hb : l[k + 1]? = some b) (hl : leS b a = true) : risingS l = false := by
  rw [← Bool.not_eq_true]
  intro h
  have h1 := rising_iff.1 h k a b ha hb
  have := notLe b a
  rw [hl, h1] at this
  cases this
section
variable {F : Nat → Prop} {ad : Nat → Addr} {w w' : World}
theorem nkid_any (n : Int) (w : World) : Calls Tryz.prog 143 #[.int .i64 n] w fun e w' => e = .returned (.bool (kidB n)) ∧ w = w' := by
  by_cases h1 : 2 ≤ n
  all_goals
    have h2 := Lib.hid h1
    go_enter Tryz.func143, Tryz.ntmps143
    go_wp2
    go_ret
    exact ⟨ret_bool (by have := h2.out; simp only [kidB]; first | (rw [decide_eq_true this]; simp) | (rw [decide_eq_false (by omega)]; simp)), rfl⟩
theorem nentry_any (e : EntryA) (w : World) : Calls Tryz.prog 140 #[.agg #[.string e.key, .string e.value, .int .i64 e.chain, .int .i64 e.size]] w fun x w' => x = .returned (.bool (rightE e)) ∧ Ext w w' := by
  have M0 : Hid (Ext w (w.alloc (.cells #[.string e.key, .string e.value, .int .i64 e.chain, .int .i64 e.size] 107))) := Lib.hid ((Mods.refl _ w).alloc _)
  cases hk : keyB e.key with
  | false =>
    have HR : Hid (rightE e = false) := Lib.hid (by unfold rightE; rw [hk]; rfl)
    go_enter Tryz.func140, Tryz.ntmps140
    go_wp2_with fail
    refine (key_any _ _).mono ?_
    rintro x w1 ⟨rfl, rfl⟩
    rw [hk]
    go_wp2_with fail
    go_ret
    exact ⟨ret_bool HR.out.symm, M0.out⟩
  | true =>
    by_cases hz : e.chain = 0
    · have hzb : (e.chain == 0) = true := beq_iff_eq.2 hz
      have HR : Hid (rightE e = (decide (e.size = 0) && decide (e.value.size ≤ 24))) := Lib.hid (by unfold rightE; rw [hk, if_pos hz]; rfl)
      clear hz
      by_cases hs : e.size = 0
      · have hsb : (e.size == 0) = true := beq_iff_eq.2 hs
        have HS := Lib.hid hs
        clear hs
        by_cases hv : (e.value.size : Int) ≤ 24
        all_goals
          have HV := Lib.hid hv
          go_enter Tryz.func140, Tryz.ntmps140
          go_wp2_with fail
          refine (key_any _ _).mono ?_
          rintro x w1 ⟨rfl, rfl⟩
          rw [hk]
          go_wp2_with fail
          go_ret
          exact ⟨ret_bool (by rw [HR.out, HS.out]; have := HV.out; first | (rw [decide_eq_true (show e.value.size ≤ 24 by omega)]; simp; done) | (rw [decide_eq_false (show ¬ e.value.size ≤ 24 by omega)]; simp; omega)), M0.out⟩
      · have hsb : (e.size == 0) = false := beq_eq_false_iff_ne.2 hs
        have HS := Lib.hid hs
        clear hs
        go_enter Tryz.func140, Tryz.ntmps140
        go_wp2_with fail
        refine (key_any _ _).mono ?_
        rintro x w1 ⟨rfl, rfl⟩
        rw [hk]
        go_wp2_with fail
        go_ret
        exact ⟨ret_bool (by rw [HR.out, decide_eq_false HS.out]; rfl), M0.out⟩
    · have hzb : (e.chain == 0) = false := beq_eq_false_iff_ne.2 hz
      have HR : Hid (rightE e = (kidB e.chain && decide (e.value.size = 0) && decide (24 < e.size) && decide (e.size ≤ 4096))) := Lib.hid (by unfold rightE; rw [hk, if_neg hz]; rfl)
      clear hz
      cases hkd : kidB e.chain with
      | false =>
        rw [hkd] at HR
        go_enter Tryz.func140, Tryz.ntmps140
        go_wp2_with fail
        refine (key_any _ _).mono ?_
        rintro x w1 ⟨rfl, rfl⟩
        rw [hk]
        go_wp2_with fail
        refine (nkid_any _ _).mono ?_
        rintro x w1 ⟨rfl, rfl⟩
        rw [hkd]
        go_wp2_with fail
        go_ret
        exact ⟨ret_bool (by rw [HR.out]; rfl), M0.out⟩
      | true =>
        rw [hkd] at HR
        have hve : (e.value.toList == []) = decide (e.value.size = 0) := by
          rw [ByteArray.toList_eq]
          have : e.value.data.toList.length = e.value.size := by rw [Array.length_toList]; rfl
          by_cases hv0 : e.value.size = 0
          · rw [decide_eq_true hv0, List.eq_nil_of_length_eq_zero (by omega : e.value.data.toList.length = 0)]; rfl
          · rw [decide_eq_false hv0, beq_eq_false_iff_ne]
            intro h; rw [h] at this; simp at this; omega
        by_cases hv0 : e.value.size = 0
        · have hv1 : e.value = ⟨#[]⟩ := ByteArray.ext (Array.eq_empty_of_size_eq_zero hv0)
          rw [decide_eq_true hv0] at HR
          clear hve hv0
          by_cases h24 : 24 < e.size
          · rw [decide_eq_true h24] at HR
            by_cases h4 : e.size ≤ 4096
            all_goals
              have HV := Lib.hid hv1
              have HD := Lib.hid h4
              clear hv1
              go_enter Tryz.func140, Tryz.ntmps140
              go_wp2_with fail
              refine (key_any _ _).mono ?_
              rintro x w1 ⟨rfl, rfl⟩
              rw [hk]
              go_wp2_with fail
              refine (nkid_any _ _).mono ?_
              rintro x w1 ⟨rfl, rfl⟩
              rw [hkd, HV.out]
              go_wp2_with fail
              go_ret
              exact ⟨ret_bool (by rw [HR.out]; have := HD.out; first | (rw [decide_eq_true (show e.size ≤ 4096 by omega)]; rfl) | (rw [decide_eq_false (show ¬ e.size ≤ 4096 by omega)]; rfl)), (Mods.refl _ w).alloc _⟩
          · rw [decide_eq_false h24] at HR
            have HV := Lib.hid hv1
            clear hv1
            go_enter Tryz.func140, Tryz.ntmps140
            go_wp2_with fail
            refine (key_any _ _).mono ?_
            rintro x w1 ⟨rfl, rfl⟩
            rw [hk]
            go_wp2_with fail
            refine (nkid_any _ _).mono ?_
            rintro x w1 ⟨rfl, rfl⟩
            rw [hkd, HV.out]
            go_wp2_with fail
            go_ret
            exact ⟨ret_bool (by rw [HR.out]; rfl), (Mods.refl _ w).alloc _⟩
        · rw [decide_eq_false hv0] at hve HR
          clear hv0
          go_enter Tryz.func140, Tryz.ntmps140
          go_wp2_with fail
          refine (key_any _ _).mono ?_
          rintro x w1 ⟨rfl, rfl⟩
          rw [hk]
          go_wp2_with fail
          refine (nkid_any _ _).mono ?_
          rintro x w1 ⟨rfl, rfl⟩
          rw [hkd]
          go_wp2_with fail
          go_ret
          exact ⟨ret_bool (by rw [HR.out]; rfl), M0.out⟩
theorem leaf1_any (e : EntryA) (w : World) : Calls Tryz.prog 142 #[.agg #[.string e.key, .string e.value, .int .i64 e.chain, .int .i64 e.size]] w fun x w' => x = .returned (.string e.key) ∧ Ext w w' := by
  go_enter Tryz.func142, Tryz.ntmps142
  go_wp2_with fail
  go_ret
  exact ⟨rfl, (Mods.refl _ w).alloc _⟩
theorem inner1_any (k : ByteArray) (w : World) : Calls Tryz.prog 146 #[.string k] w fun x w' => x = .returned (.string k) ∧ w = w' := by
  go_enter Tryz.func146, Tryz.ntmps146
  go_wp2_with fail
  go_ret
  exact ⟨rfl, rfl⟩
end
end Go.Proofs.YtmgfneijcfjlfaaGreatDoor
namespace Go.Proofs.YtmgfneijcfjlfaaGreatDoor
open Go.RowKit
attribute [local go_sem ↓] Go.wp_at_zero Go.wp_at_succ
section
variable {F : Nat → Prop} {ad : Nat → Addr} {w w' : World}
set_option maxRecDepth 100000 in
theorem risingE_any (ve : Value) (l : List EntryA) (hve : Sl F w 4 encE ve l) :
    Calls Tryz.prog 141 #[ve, .func (.func 142) #[] #[]] w fun x w' => x = .returned (.bool (risingS (l.map (·.key)))) ∧ Ext w w' := by
  obtain ⟨ae, ce, rfl, he1, he2, he3, hee⟩ := hve
  unfold maxLen at he2
  go_enter Tryz.func141, Tryz.ntmps141
  go_wp2_with fail
  go_loopg [5] l.length (fun m i wr => ∃ k : Nat, k + m = l.length ∧ i = .int .i64 ((k + 1 : Nat) : Int) ∧ Hid (upTo (l.map (·.key)) (k + 1)) ∧ Ext w wr)
  case atStart => exact ⟨0, by omega, rfl, Lib.hid (fun i a b hi => by omega), Mods.refl _ _⟩
  case round =>
    obtain ⟨k, hkm, rfl, HZ, hm⟩ := hrel
    by_cases hlt : k + 1 < l.length
    · obtain ⟨b, off, rfl, hb, hF, hc⟩ := Sl.at hee hm (fun _ _ f => f.elim) (k + 1) hlt
      obtain ⟨b', off', hbb, hb', hF', hd⟩ := Sl.at hee hm (fun _ _ f => f.elim) k (by omega)
      injection hbb with hbb
      injection hbb with hbb1 hbb2
      subst hbb1 hbb2
      have c0 := hc 0 _ rfl
      simp only [Nat.add_zero] at c0
      have c1 := hc 1 _ rfl
      have c2 := hc 2 _ rfl
      have c3 := hc 3 _ rfl
      have d0 := hd 0 _ rfl
      simp only [Nat.add_zero] at d0
      have d1 := hd 1 _ rfl
      have d2 := hd 2 _ rfl
      have d3 := hd 3 _ rfl
      have HM := Lib.hid hm
      have HEE := Lib.hid hee
      clear hc hd hee hm
      have i1 : (0 : Int) ≤ (k : Int) + 1 := by omega
      have i2 : (k : Int) + 1 < (l.length : Int) := by omega
      have i3 : (0 : Int) ≤ (k : Int) := by omega
      have i4 : (k : Int) < (l.length : Int) := by omega
      have hw1 : IntKind.i64.wrap ((k : Int) + 1 - 1) = (k : Int) := by rw [show (k : Int) + 1 - 1 = k by omega]; exact IntWalk.i64_in _ (by omega)
      have hw2 : IntKind.i64.wrap (k : Int) = (k : Int) := IntWalk.i64_in _ (by omega)
      go_wp2_with fail
      go_region_held3 (fun w' => w'.cell? ⟨b, off + (k + 1) * 4, none⟩ = some (.string l[k + 1].key) ∧ w'.cell? ⟨b, off + (k + 1) * 4 + 1, none⟩ = some (.string l[k + 1].value) ∧ w'.cell? ⟨b, off + (k + 1) * 4 + 2, none⟩ = some (.int .i64 l[k + 1].chain) ∧ w'.cell? ⟨b, off + (k + 1) * 4 + 3, none⟩ = some (.int .i64 l[k + 1].size) ∧
          w'.cell? ⟨b, off + k * 4, none⟩ = some (.string l[k].key) ∧ w'.cell? ⟨b, off + k * 4 + 1, none⟩ = some (.string l[k].value) ∧ w'.cell? ⟨b, off + k * 4 + 2, none⟩ = some (.int .i64 l[k].chain) ∧ w'.cell? ⟨b, off + k * 4 + 3, none⟩ = some (.int .i64 l[k].size))
        (first | (with_reducible exact ⟨x0, x1, x2, x3, y0, y1, y2, y3⟩) | go_keep)
        (first
          | (go_at_call 142; (with_reducible refine (leaf1_any l[k + 1] _).mono ?_); rintro x w1 ⟨rfl, hm1⟩; have x0 := cellE hm1 c0; have x1 := cellE hm1 c1; have x2 := cellE hm1 c2; have x3 := cellE hm1 c3; have y0 := cellE hm1 d0; have y1 := cellE hm1 d1; have y2 := cellE hm1 d2; have y3 := cellE hm1 d3)
          | (go_at_call 142; (with_reducible refine (leaf1_any l[k] _).mono ?_); rintro x w2 ⟨rfl, hm2⟩; have hmm := hm1.trans hm2; have x0 := cellE hmm c0; have x1 := cellE hmm c1; have x2 := cellE hmm c2; have x3 := cellE hmm c3; have y0 := cellE hmm d0; have y1 := cellE hmm d1; have y2 := cellE hmm d2; have y3 := cellE hmm d3)
          | fail)
      clear c0 c1 c2 c3 d0 d1 d2 d3 x0 x1 x2 x3 y0 y1 y2 y3
      have HM2 : Hid (Ext w w2) := Lib.hid (HM.out.drew.trans hmm)
      clear hm1 hm2 hmm
      have g0 : (l.map (·.key))[k]? = some l[k].key := by simp [List.getElem?_eq_getElem (show k < l.length by omega)]
      have g1 : (l.map (·.key))[k + 1]? = some l[k + 1].key := by simp [List.getElem?_eq_getElem hlt]
      have G0 := Lib.hid g0
      have G1 := Lib.hid g1
      clear g0 g1 hw1 hw2
      go_wp2_with fail
      all_goals rename_i hh
      all_goals have HT := Lib.hid hh
      all_goals clear hh
      all_goals first
        | (go_ret
           exact ⟨ret_bool (not_rising G0.out G1.out (by unfold leS; have := HT.out; simpa using this)).symm, HM2.out⟩)
        | (go_roundg (gk - 1)
           case measure => omega
           case rel => exact ⟨k + 1, by omega, by go_num, Lib.hid (upTo_step HZ.out G0.out G1.out (by unfold leS; have := HT.out; simpa using this)), HM2.out⟩)
    · have hke : l.length ≤ k + 1 := by omega
      have HK := Lib.hid hke
      go_wp2_with fail
      go_ret
      exact ⟨ret_bool (upTo_all HZ.out (by rw [List.length_map]; exact HK.out)).symm, hm⟩
set_option maxRecDepth 100000 in
theorem risingS_any (ve : Value) (l : List ByteArray) (hve : Sl F w 1 encS ve l) :
    Calls Tryz.prog 145 #[ve, .func (.func 146) #[] #[]] w fun x w' => x = .returned (.bool (risingS l)) ∧ Ext w w' := by
  obtain ⟨ae, ce, rfl, he1, he2, he3, hee⟩ := hve
  unfold maxLen at he2
  go_enter Tryz.func145, Tryz.ntmps145
  go_wp2_with fail
  go_loopg [5] l.length (fun m i wr => ∃ k : Nat, k + m = l.length ∧ i = .int .i64 ((k + 1 : Nat) : Int) ∧ Hid (upTo l (k + 1)) ∧ Ext w wr)
  case atStart => exact ⟨0, by omega, rfl, Lib.hid (fun i a b hi => by omega), Mods.refl _ _⟩
  case round =>
    obtain ⟨k, hkm, rfl, HZ, hm⟩ := hrel
    by_cases hlt : k + 1 < l.length
    · obtain ⟨b, off, rfl, hb, hF, hc⟩ := Sl.at hee hm (fun _ _ f => f.elim) (k + 1) hlt
      obtain ⟨b', off', hbb, hb', hF', hd⟩ := Sl.at hee hm (fun _ _ f => f.elim) k (by omega)
      injection hbb with hbb
      injection hbb with hbb1 hbb2
      subst hbb1 hbb2
      have c0 := hc 0 _ rfl
      simp only [Nat.add_zero, Nat.mul_one] at c0
      have d0 := hd 0 _ rfl
      simp only [Nat.add_zero, Nat.mul_one] at d0
      have HM := Lib.hid hm
      have HEE := Lib.hid hee
      clear hc hd hee hm
      have i1 : (0 : Int) ≤ (k : Int) + 1 := by omega
      have i2 : (k : Int) + 1 < (l.length : Int) := by omega
      have i3 : (0 : Int) ≤ (k : Int) := by omega
      have i4 : (k : Int) < (l.length : Int) := by omega
      have hw1 : IntKind.i64.wrap ((k : Int) + 1 - 1) = (k : Int) := by rw [show (k : Int) + 1 - 1 = k by omega]; exact IntWalk.i64_in _ (by omega)
      have hw2 : IntKind.i64.wrap (k : Int) = (k : Int) := IntWalk.i64_in _ (by omega)
      go_wp2_with fail
      go_region_held3 (fun w' => w'.cell? ⟨b, off + (k + 1), none⟩ = some (.string l[k + 1]) ∧ w'.cell? ⟨b, off + k, none⟩ = some (.string l[k]))
        (first | (with_reducible exact ⟨c0, d0⟩) | go_keep)
        (first
          | (go_at_call 146; (with_reducible refine (inner1_any _ _).mono ?_); rintro x w1 ⟨rfl, rfl⟩)
          | fail)
      clear c0 d0
      have HM2 : Hid (Ext w wr.drew) := Lib.hid HM.out.drew
      have G0 : Hid (l[k]? = some l[k]) := Lib.hid (List.getElem?_eq_getElem (by omega))
      have G1 : Hid (l[k + 1]? = some l[k + 1]) := Lib.hid (List.getElem?_eq_getElem hlt)
      clear hw1 hw2
      go_wp2_with fail
      all_goals rename_i hh
      all_goals have HT := Lib.hid hh
      all_goals clear hh
      all_goals first
        | (go_ret
           exact ⟨ret_bool (not_rising G0.out G1.out (by unfold leS; have := HT.out; simpa using this)).symm, HM2.out⟩)
        | (go_roundg (gk - 1)
           case measure => omega
           case rel => exact ⟨k + 1, by omega, by go_num, Lib.hid (upTo_step HZ.out G0.out G1.out (by unfold leS; have := HT.out; simpa using this)), HM2.out⟩)
    · have hke : l.length ≤ k + 1 := by omega
      have HK := Lib.hid hke
      go_wp2_with fail
      go_ret
      exact ⟨ret_bool (upTo_all HZ.out HK.out).symm, hm⟩
end
end Go.Proofs.YtmgfneijcfjlfaaGreatDoor
