/- node.Find's closures, node.first, node.Find. | node.Find's answer in the words of the tree. Plain. | Trees on what is known of a pager: a page's node, the way to a key, what stands there. Plain. | Many pages, put one behind the other: what is known then. Plain. | A tree on a pager: what lookup.Get and lookup.Path tell of it. Plain. | lookup.Walk, as plain Lean. -/
import Derived.Test.YtepafbokbfcbgaaGreatDoorK08
import Derived.Test.YtepafbokbfcbgaaGreatDoorK14
import Derived.BigQuiet
import Derived.Test.YtepafbokbfcbgaaGreatDoorK21
import Derived.Test.YtepafbokbfcbgaaGreatDoorK20
import Derived.Test.YtepafbokbfcbgaaGreatDoorK22
import Derived.Test.YtepafbokbfcbgaaGreatDoorK19
namespace Go.Proofs.YtepafbokbfcbgaaGreatDoor
open Go.RowKit
section
variable {F : Nat → Prop} {ad : Nat → Addr} {w w' : World}
theorem find1_any (kb : Nat) (e : EntryA) (key : ByteArray) (hk : w.cell? ⟨kb, 0, none⟩ = some (.string key)) :
    Calls Tryz.prog 113 #[.agg #[.string e.key, .string e.value, .int .i64 e.chain, .int .i64 e.size], .pointer (some ⟨kb, 0, none⟩)] w fun x w' => x = .returned (.bool (!ltS e.key key)) ∧ Ext w w' := by
  have hlt := cell_lt hk
  have hk0 : (w.alloc (.cells #[.string e.key, .string e.value, .int .i64 e.chain, .int .i64 e.size] 131)).cell? ⟨kb, 0, none⟩ = some (.string key) := cellE ((Mods.refl _ w).alloc _) hk
  go_enter Tryz.func113, Tryz.ntmps113
  go_wp2_with fail
  go_ret
  exact ⟨rfl, (Mods.refl _ w).alloc _⟩
theorem find2_any (kb : Nat) (k : ByteArray) (key : ByteArray) (hk : w.cell? ⟨kb, 0, none⟩ = some (.string key)) :
    Calls Tryz.prog 115 #[.string k, .pointer (some ⟨kb, 0, none⟩)] w fun x w' => x = .returned (.bool (!leS k key)) ∧ Ext w w' := by
  go_enter Tryz.func115, Tryz.ntmps115
  go_wp2_with fail
  go_ret
  exact ⟨ret_bool (by simp [leS]), Mods.refl _ _⟩
/-- the place of the first for which p holds. -/
theorem findIdx_yes {α : Type} {p : α → Bool} {l : List α} {k : Nat} (hk : k < l.length) (h : ∀ x ∈ l.take k, p x = false) (hp : p l[k] = true) : l.findIdx p = k := by
  rw [List.findIdx_eq hk]
  exact ⟨hp, fun j hj => h _ (List.mem_take_iff_getElem.2 ⟨j, by omega, rfl⟩)⟩
theorem findIdx_no {α : Type} {p : α → Bool} {l : List α} (h : ∀ x ∈ l, p x = false) : l.findIdx p = l.length := List.findIdx_eq_length.2 h
set_option maxRecDepth 100000 in
theorem firstE_any (kb : Nat) (key : ByteArray) (hk : w.cell? ⟨kb, 0, none⟩ = some (.string key)) (ve : Value) (l : List EntryA) (hve : Sl F w 4 encE ve l) :
    Calls Tryz.prog 112 #[ve, .func (.func 113) #[] #[.pointer (some ⟨kb, 0, none⟩)]] w fun x w' => x = .returned (.int .i64 (l.findIdx fun e => !ltS e.key key : Nat)) ∧ Ext w w' := by
  obtain ⟨ae, ce, rfl, he1, he2, he3, hee⟩ := hve
  unfold maxLen at he2
  go_enter Tryz.func112, Tryz.ntmps112
  go_wp2_with fail
  go_loopg [9] l.length (fun m i wr => ∃ k : Nat, k + m = l.length ∧ i = .int .i64 k ∧ Hid (∀ x ∈ l.take k, (!ltS x.key key) = false) ∧ Ext w wr)
  case atStart => exact ⟨0, by omega, rfl, Lib.hid (by simp), Mods.refl _ _⟩
  case round =>
    obtain ⟨k, hkm, rfl, HZ, hm⟩ := hrel
    by_cases hlt : k < l.length
    · obtain ⟨b, off, rfl, hb, hF, hc⟩ := Sl.at hee hm (fun _ _ f => f.elim) k hlt
      have c0 := hc 0 _ rfl
      simp only [Nat.add_zero] at c0
      have c1 := hc 1 _ rfl
      have c2 := hc 2 _ rfl
      have c3 := hc 3 _ rfl
      have hkb := cellE hm hk
      have HM := Lib.hid hm
      have HEE := Lib.hid hee
      have HK := Lib.hid hk
      clear hc hee hk hm
      have hkb2 := fun v => cellE ((Mods.refl _ wr).alloc v) hkb
      go_wp2_with fail
      refine (find1_any kb l[k] key (hkb2 _)).mono ?_
      rintro x w1 ⟨rfl, hm1⟩
      have HM1 : Hid (Ext w w1) := Lib.hid ((HM.out.alloc _).trans hm1)
      clear hm1 hkb hkb2
      cases ht : ltS l[k].key key
      · have HT := Lib.hid ht
        clear ht
        go_wp2_with fail
        go_ret
        exact ⟨by rw [findIdx_yes hlt HZ.out (by rw [HT.out]; rfl)]; rfl, HM1.out⟩
      · have HT := Lib.hid ht
        clear ht
        go_wp2_with fail
        go_roundg (gk - 1)
        case measure => omega
        case rel => exact ⟨k + 1, by omega, by go_num, Lib.hid (fun x hx => by
          rw [take_one l k l[k] (by simp [hlt])] at hx
          rcases List.mem_append.1 hx with h | h
          · exact HZ.out x h
          · rw [List.mem_singleton.1 h, HT.out]; rfl), HM1.out⟩
    · have hke : k = l.length := by omega
      go_wp2_with fail
      go_ret
      exact ⟨by rw [findIdx_no (by have := HZ.out; rwa [hke, List.take_length] at this)]; rfl, hm⟩
set_option maxRecDepth 100000 in
theorem firstS_any (kb : Nat) (key : ByteArray) (hk : w.cell? ⟨kb, 0, none⟩ = some (.string key)) (ve : Value) (l : List ByteArray) (hve : Sl F w 1 encS ve l) :
    Calls Tryz.prog 114 #[ve, .func (.func 115) #[] #[.pointer (some ⟨kb, 0, none⟩)]] w fun x w' => x = .returned (.int .i64 (l.findIdx fun k => !leS k key : Nat)) ∧ Ext w w' := by
  obtain ⟨ae, ce, rfl, he1, he2, he3, hee⟩ := hve
  unfold maxLen at he2
  go_enter Tryz.func114, Tryz.ntmps114
  go_wp2_with fail
  go_loopg [9] l.length (fun m i wr => ∃ k : Nat, k + m = l.length ∧ i = .int .i64 k ∧ Hid (∀ x ∈ l.take k, (!leS x key) = false) ∧ Ext w wr)
  case atStart => exact ⟨0, by omega, rfl, Lib.hid (by simp), Mods.refl _ _⟩
  case round =>
    obtain ⟨k, hkm, rfl, HZ, hm⟩ := hrel
    by_cases hlt : k < l.length
    · obtain ⟨b, off, rfl, hb, hF, hc⟩ := Sl.at hee hm (fun _ _ f => f.elim) k hlt
      have c0 := hc 0 _ rfl
      simp only [Nat.add_zero, Nat.mul_one] at c0
      have hkb := cellE hm hk
      have HM := Lib.hid hm
      have HEE := Lib.hid hee
      have HK := Lib.hid hk
      clear hc hee hk hm
      go_wp2_with fail
      refine (find2_any kb l[k] key hkb).mono ?_
      rintro x w1 ⟨rfl, hm1⟩
      have HM1 : Hid (Ext w w1) := Lib.hid (HM.out.trans hm1)
      clear hm1 hkb
      cases ht : leS l[k] key
      · have HT := Lib.hid ht
        clear ht
        go_wp2_with fail
        go_ret
        exact ⟨by rw [findIdx_yes hlt HZ.out (by rw [HT.out]; rfl)]; rfl, HM1.out⟩
      · have HT := Lib.hid ht
        clear ht
        go_wp2_with fail
        go_roundg (gk - 1)
        case measure => omega
        case rel => exact ⟨k + 1, by omega, by go_num, Lib.hid (fun x hx => by
          rw [take_one l k l[k] (by simp [hlt])] at hx
          rcases List.mem_append.1 hx with h | h
          · exact HZ.out x h
          · rw [List.mem_singleton.1 h, HT.out]; rfl), HM1.out⟩
    · have hke : k = l.length := by omega
      go_wp2_with fail
      go_ret
      exact ⟨by rw [findIdx_no (by have := HZ.out; rwa [hke, List.take_length] at this)]; rfl, hm⟩
theorem keyEq (a b : ByteArray) : (a.toList == b.toList) = decide (a = b) := by
  by_cases h : a = b
  · rw [h]; simp
  · rw [decide_eq_false h, beq_eq_false_iff_ne]
    intro e
    rw [ByteArray.toList_eq, ByteArray.toList_eq] at e
    exact h (ByteArray.ext (Array.toList_inj.1 e))
/-- where a key belongs in a node; and whether it is there. -/
def findN (n : NodeA) (key : ByteArray) : Nat × Bool :=
  if n.leaf then
    let i := n.entries.findIdx fun e => !ltS e.key key
    (i, match n.entries[i]? with | some e => decide (e.key = key) | none => false)
  else (n.keys.findIdx fun k => !leS k key, false)
set_option maxRecDepth 100000 in
theorem findNode_any (n : NodeA) (key : ByteArray) (ve vk vi : Value) (hve : Sl F w 4 encE ve n.entries) (hvk : Sl F w 1 encS vk n.keys) :
    Calls Tryz.prog 94 #[.agg #[.bool n.leaf, ve, vk, vi], .string key] w fun x w' => x = .returned (.tuple #[.int .i64 ((findN n key).1 : Nat), .bool (findN n key).2]) ∧ Ext w w' := by
  have m0 : Ext w ((w.alloc (.cells #[.bool n.leaf, ve, vk, vi] 134)).alloc (.cells #[.string key] 9)) := ((Mods.refl _ w).alloc _).alloc _
  have HE := Lib.hid (hve.ext m0)
  have HK := Lib.hid (hvk.ext m0)
  have M0 := Lib.hid m0
  clear hve hvk m0
  cases hleaf : n.leaf
  · have HR : Hid (findN n key = (n.keys.findIdx fun k => !leS k key, false)) := Lib.hid (by unfold findN; rw [hleaf]; rfl)
    rw [hleaf] at HE HK M0
    clear hleaf
    go_enter Tryz.func94, Tryz.ntmps94
    go_wp2_with fail
    refine (firstS_any (w.heap.size + 1) key (by go_cell) vk n.keys HK.out).mono ?_
    rintro x w1 ⟨rfl, hm1⟩
    have HM1 := Lib.hid (M0.out.trans hm1)
    clear hm1
    go_wp2_with fail
    go_ret2
    exact ⟨by rw [HR.out]; rfl, HM1.out⟩
  · rw [hleaf] at HE HK M0
    have HL := Lib.hid hleaf
    clear hleaf
    obtain ⟨q, hq⟩ : ∃ q, q = n.entries.findIdx fun e => !ltS e.key key := ⟨_, rfl⟩
    have HR : Hid (findN n key = (q, match n.entries[q]? with | some e => decide (e.key = key) | none => false)) := Lib.hid (by unfold findN; rw [HL.out, hq]; rfl)
    have HQ := Lib.hid hq
    clear hq
    obtain ⟨ae, ce, rfl, he1, he2, he3, hee⟩ := _root_.id HE.out
    have HEE := Lib.hid hee
    clear hee
    by_cases hlt : q < n.entries.length
    · go_enter Tryz.func94, Tryz.ntmps94
      go_wp2_with fail
      refine (firstE_any (w.heap.size + 1) key (by go_cell) _ n.entries HE.out).mono ?_
      rintro x w1 ⟨rfl, hm1⟩
      rw [← HQ.out]
      have HM1 := Lib.hid (M0.out.trans hm1)
      obtain ⟨b, off, rfl, hb, hF, hc⟩ := Sl.at HEE.out hm1 (fun _ _ f => f.elim) q hlt
      have c0 := hc 0 _ rfl
      simp only [Nat.add_zero] at c0
      have x1 : w1.cell? ⟨w.heap.size, 1, none⟩ = some (.slice (some ⟨b, off, none⟩) n.entries.length ce) := cellE hm1 (by go_cell)
      have x2 : w1.cell? ⟨w.heap.size + 1, 0, none⟩ = some (.string key) := cellE hm1 (by go_cell)
      have hd : decide ((q : Int) < (n.entries.length : Int)) = true := decide_eq_true (by omega)
      have HG : Hid (n.entries[q]? = some n.entries[q]) := Lib.hid (List.getElem?_eq_getElem hlt)
      clear hm1 hc
      go_wp2_with fail
      go_quiet (fail)
      go_wp2_with fail
      go_ret2
      exact ⟨by rw [keyEq, HR.out, HG.out]; rfl, HM1.out.drewN _⟩
    · go_enter Tryz.func94, Tryz.ntmps94
      go_wp2_with fail
      refine (firstE_any (w.heap.size + 1) key (by go_cell) _ n.entries HE.out).mono ?_
      rintro x w1 ⟨rfl, hm1⟩
      rw [← HQ.out]
      have HM1 := Lib.hid (M0.out.trans hm1)
      have x1 : w1.cell? ⟨w.heap.size, 1, none⟩ = some (.slice ae n.entries.length ce) := cellE hm1 (by go_cell)
      have hd : decide ((q : Int) < (n.entries.length : Int)) = false := decide_eq_false (by omega)
      have HG : Hid (n.entries[q]? = none) := Lib.hid (List.getElem?_eq_none (by omega))
      clear hm1
      go_wp2_with fail
      go_quiet (fail)
      go_wp2_with fail
      go_ret2
      exact ⟨by rw [HR.out, HG.out]; rfl, HM1.out.drewN _⟩
end
end Go.Proofs.YtepafbokbfcbgaaGreatDoor
namespace Go.Proofs.YtepafbokbfcbgaaGreatDoor
theorem notLe (a b : ByteArray) : (!leS a b) = ltS b a := by
  cases h : ltS b a with
  | true =>
    rw [Bool.not_eq_true', ← Bool.not_eq_true]
    intro e
    rcases (leS_iff a b).1 e with k | k
    · rw [ltS_asymm h] at k; cases k
    · rw [k, ltS_irrefl] at h; cases h
  | false =>
    rw [Bool.not_eq_false', leS_iff]
    exact (not_ltS h).imp id Eq.symm
theorem findN_leaf {n : NodeA} (h : n.leaf = true) (key : ByteArray) : findN n key = (entAt key n.entries, entIs key n.entries) := by
  unfold findN
  rw [h]
  rfl
theorem findN_inner {n : NodeA} (h : n.leaf = false) (key : ByteArray) : findN n key = (kidAt key n.keys, false) := by
  have e : (fun k => !leS k key) = fun s => ltS key s := by funext s; exact notLe s key
  unfold findN kidAt
  rw [h, e]
  rfl
end Go.Proofs.YtepafbokbfcbgaaGreatDoor
namespace Go.Proofs.YtepafbokbfcbgaaGreatDoor
open Go.RowKit

/-- a page's node. -/
def decodeA (p : PageA) : NodeA ⊕ Err :=
  if p.kind = 3 ∨ p.kind = 2 then (match getN (decide (p.kind = 3)) p.body with | some n => .inl n | none => .inr ([pgOf p.id], 5)) else .inr ([pgOf p.id], 5)
def GA.load (G : GA) (id : Int) : NodeA ⊕ Err :=
  match G.get id with
  | .inr (l, k) => .inr (-1 :: l, k)
  | .inl p => match decodeA p with
    | .inl n => .inl n
    | .inr (l, k) => .inr (-1 :: l, k)
/-- the steps to a leaf, and the leaf; or why there is none. -/
def findA (G : GA) (key : ByteArray) : Nat → List (Int × Nat) → Int → (List (Int × Nat) × NodeA) ⊕ Err
  | 0, _, id => .inr ([pgOf id], 5)
  | f + 1, st, id => match G.load id with
    | .inr e => .inr e
    | .inl n => if n.leaf then .inl (st ++ [(id, (findN n key).1)], n) else findA G key f (st ++ [(id, (findN n key).1)]) (n.kids.getD (findN n key).1 0)
def findOk (G : GA) (key : ByteArray) : Nat → Int → Prop
  | 0, _ => True
  | f + 1, id => G.knows id ∧ ∀ n, G.load id = .inl n → n.leaf = false → findOk G key f (n.kids.getD (findN n key).1 0)
/-- an entry's value. -/
def valueA (G : GA) (e : EntryA) : ByteArray ⊕ Err :=
  if e.chain = 0 then .inl e.value else match chErr G e.chain e.size with
    | none => .inl ⟨((walkA G e.size.toNat e.chain e.size).1.flatMap (·.2)).toArray⟩
    | some (l, k) => .inr (-1 :: l, k)
def valueOk (G : GA) (e : EntryA) : Prop := e.chain ≠ 0 → 25 ≤ e.size → e.size ≤ 4096 → walkOk G e.size.toNat e.chain e.size
/-- lookup.Path: the steps, and whether the key stands there. -/
def pathA (G : GA) (root : Int) (key : ByteArray) : (List (Int × Nat) × Bool) ⊕ Err :=
  match lkCheck key with
  | some e => .inr e
  | none => if root = 0 then .inl ([], false) else match findA G key 16 [] root with
    | .inr (l, k) => .inr (-1 :: l, k)
    | .inl (st, n) => .inl (st, (findN n key).2)
/-- lookup.Get: the value, if the key stands there. -/
def lookA (G : GA) (root : Int) (key : ByteArray) : Option ByteArray ⊕ Err :=
  match lkCheck key with
  | some e => .inr e
  | none => if root = 0 then .inl none else match findA G key 16 [] root with
    | .inr (l, k) => .inr (-1 :: l, k)
    | .inl (_, n) => match n.entries[(findN n key).1]? with
      | none => .inl none
      | some e => if (findN n key).2 = true then (match valueA G e with | .inl v => .inl (some v) | .inr (l, k) => .inr (-1 :: l, k)) else .inl none
def lookOk (G : GA) (root : Int) (key : ByteArray) : Prop := findOk G key 16 root ∧ ∀ st n e, findA G key 16 [] root = .inl (st, n) → n.entries[(findN n key).1]? = some e → valueOk G e

theorem decodeA_right {p : PageA} {n : NodeA} (h : decodeA p = .inl n) : rightN n = true ∧ n.leaf = decide (p.kind = 3) := by
  unfold decodeA at h
  split at h
  · split at h
    · rename_i h1
      injection h with h; subst h
      unfold getN at h1
      simp only at h1
      split at h1
      · rename_i h2
        injection h1 with h1; subst h1
        refine ⟨h2.2.1, ?_⟩
        unfold rdNode
        simp only
        split
        · rename_i h3; simpa using h3.symm
        · rename_i h3; simpa using h3
      · cases h1
    · cases h
  · cases h
theorem GA.load_right {G : GA} {id : Int} {n : NodeA} (h : G.load id = .inl n) : rightN n = true := by
  unfold GA.load at h
  split at h
  · cases h
  · split at h
    · rename_i h1
      injection h with h; subst h
      exact (decodeA_right h1).1
    · cases h
theorem findA_right {G : GA} {key : ByteArray} : ∀ (f : Nat) (pre : List (Int × Nat)) (id : Int) {st : List (Int × Nat)} {n : NodeA}, findA G key f pre id = .inl (st, n) → rightN n = true ∧ n.leaf = true
  | 0, _, _, _, _, h => by cases h
  | f + 1, pre, id, st, n, h => by
    rw [findA] at h
    split at h
    · cases h
    · rename_i m hm
      split at h
      · rename_i hl
        injection h with h
        injection h with _ h
        subst h
        exact ⟨GA.load_right hm, hl⟩
      · exact findA_right f _ _ h
/-- a page's node, as it is seen. -/
def GA.node (G : GA) (id : Nat) : Option NodeA := if id < G.blocks then (match G.view id with
  | some (.inl p) => (match decodeA p with | .inl n => some n | .inr _ => none)
  | _ => none) else none
theorem GA.node_load {G : GA} {id : Nat} {n : NodeA} (h : G.node id = some n) : G.knows (id : Int) ∧ G.load (id : Int) = .inl n := by
  unfold GA.node at h
  split at h
  · rename_i hlt
    split at h
    · rename_i p hp
      refine ⟨fun _ => ⟨_, by rw [Int.toNat_natCast]; exact hp⟩, ?_⟩
      unfold GA.load
      rw [get_view hlt hp]
      simp only
      split at h
      · rename_i h1; injection h with h; subst h; rw [h1]
      · cases h
    · cases h
  · cases h
theorem kids_at {n : NodeA} {i : Nat} {k : Int} (h : n.kids[i]? = some k) : n.kids.getD i 0 = k := by
  simp [List.getD, h]
/-- a path is found. -/
theorem PathA.findA {G : GA} {key : ByteArray} {id d : Nat} {st : List (Nat × Nat)} {m : NodeA} (h : PathA G.node key id d st m) : ∀ (f : Nat) (pre : List (Int × Nat)), d ≤ f → (∀ id n k, G.node id = some n → k ∈ n.kids → 0 ≤ k) →
    Go.Proofs.YtepafbokbfcbgaaGreatDoor.findA G key f pre (id : Int) = .inl (pre ++ st.map (fun x => ((x.1 : Int), x.2)), m) ∧ findOk G key f (id : Int) := by
  induction h with
  | @leaf id n h1 h2 =>
    intro f pre hf hk
    obtain ⟨f, rfl⟩ : ∃ g, f = g + 1 := ⟨f - 1, by omega⟩
    obtain ⟨k1, k2⟩ := GA.node_load h1
    refine ⟨?_, k1, fun n2 e hl => ?_⟩
    · rw [Go.Proofs.YtepafbokbfcbgaaGreatDoor.findA, k2]
      simp only [h2, if_true, findN_leaf h2]
      rfl
    · rw [k2] at e
      injection e with e
      subst e
      rw [h2] at hl; cases hl
  | @inner id n d st m k h1 h2 h3 h4 ih =>
    intro f pre hf hk
    obtain ⟨f, rfl⟩ : ∃ g, f = g + 1 := ⟨f - 1, by omega⟩
    obtain ⟨k1, k2⟩ := GA.node_load h1
    have hk0 := hk _ n k h1 (List.mem_of_getElem? h3)
    obtain ⟨j1, j2⟩ := ih f (pre ++ [((id : Int), kidAt key n.keys)]) (by omega) hk
    have hkc : ((k.toNat : Nat) : Int) = k := by omega
    rw [hkc] at j1 j2
    have hkd := kids_at h3
    refine ⟨?_, k1, fun n2 e hl => ?_⟩
    · rw [Go.Proofs.YtepafbokbfcbgaaGreatDoor.findA, k2]
      simp only [h2, Bool.false_eq_true, if_false, findN_inner h2, hkd]
      rw [j1]
      simp
    · rw [k2] at e
      injection e with e
      subst e
      rw [findN_inner h2]
      simp only [hkd]
      exact j2
theorem node_right {G : GA} {id : Nat} {n : NodeA} (h : G.node id = some n) : rightN n = true := GA.load_right (GA.node_load h).2
theorem node_kids {G : GA} (id : Nat) (n : NodeA) (k : Int) (h : G.node id = some n) (hk : k ∈ n.kids) : 0 ≤ k := by
  have hr := node_right h
  cases hl : n.leaf with
  | true =>
    unfold rightN at hr
    rw [if_pos hl] at hr
    simp only [Bool.and_eq_true, List.isEmpty_iff] at hr
    rw [hr.1.1.2] at hk
    cases hk
  | false =>
    have := (rightN_inner hr hl).2.2 k hk
    omega
/-- what a chain reads as. -/
def GA.R (G : GA) (c s : Int) : Option ByteArray := match chErr G c s with
  | none => some ⟨((walkA G s.toNat c s).1.flatMap (·.2)).toArray⟩
  | some _ => none
/-- what stands on pages one behind the other. -/
structure OnG (G : GA) (ps : List PageA) : Prop where
  size : G.size = 256
  b256 : G.blocks ≤ 256
  fit : 2 + ps.length ≤ G.blocks
  at_ : ∀ id p, pageAt ps id = some p → G.view id = some (.inl p)
theorem pageAt_lt {ps : List PageA} {id : Nat} {p : PageA} (h : pageAt ps id = some p) : 2 ≤ id ∧ id < 2 + ps.length := by
  unfold pageAt at h
  split at h
  · cases h
  · have := (List.getElem?_eq_some_iff.1 h).1
    omega
theorem OnG.holds {G : GA} {ps : List PageA} (h : OnG G ps) {gen : Nat} {c s : Int} {v : ByteArray} (hc : chainV ps gen c s v) : ∃ k : Nat, c = ((k + 2 : Nat) : Int) ∧ s = (v.size : Int) ∧ 25 ≤ v.size ∧ v.size ≤ 4096 ∧ Holds G gen v.data.toList k (ndK v.size) ∧ k + 2 + ndK v.size ≤ G.blocks := by
  obtain ⟨h1, h2, h3, k, h4, h5⟩ := hc
  refine ⟨k, h4, h1, h2, h3, fun i hi => ?_, ?_⟩
  · unfold PageK
    rw [h.size]
    exact h.at_ _ _ (h5 i hi)
  · have hn : 1 ≤ ndK v.size := by unfold ndK; omega
    have h6 := (pageAt_lt (h5 (ndK v.size - 1) (by omega))).2
    have := h.fit
    omega
theorem OnG.chain {G : GA} {ps : List PageA} (h : OnG G ps) {gen : Nat} {c s : Int} {v : ByteArray} (hc : chainV ps gen c s v) : G.R c s = some v ∧ walkOk G s.toNat c s := by
  obtain ⟨k, rfl, rfl, h25, h4096, hH, hb⟩ := h.holds hc
  have hl : v.data.toList.length = v.size := size_toList v
  have hf : Fit v.data.toList.length 228 (ndK v.size) := by rw [hl]; exact ndK_fit _ (by omega)
  have hs : G.size = 228 + 28 := h.size
  have hb2 := h.b256
  obtain ⟨w1, w2⟩ := walk_all hf hs hb hb2 hH
  have hz := chErr_holds hf hs hb hb2 hH (by omega) (by omega)
  rw [hl] at w1 w2 hz
  rw [Int.toNat_natCast]
  refine ⟨?_, w2⟩
  unfold GA.R
  rw [hz, Int.toNat_natCast, w1]
  simp only [Option.some.injEq]
  have e : ((List.range (ndK v.size)).map fun i => (((idsK k (ndK v.size)).getD i 0 : Nat) : Int)).length = ndK v.size := by simp
  apply ByteArray.ext
  have := pieces_all v.data.toList 228 (ndK v.size) (by rw [hl]; have := hf.last (i := ndK v.size - 1) (by unfold ndK; omega); rw [hl] at this; have e2 : ndK v.size = ndK v.size - 1 + 1 := by unfold ndK; omega
                                                        rw [e2, Nat.add_mul]; omega)
  simp only [List.flatMap_map]
  first | exact congrArg List.toArray this | (rw [← List.range_eq_range'] at this; exact congrArg List.toArray this) | (simp [Function.comp_def] at this ⊢; exact this)
theorem OnG.fits {G : GA} {ps : List PageA} (h : OnG G ps) (gen : Nat) : FitsR ps gen G.R := fun _ _ _ hc => (h.chain hc).1
theorem OnG.node {G : GA} {ps : List PageA} (h : OnG G ps) {id : Nat} {n : NodeA} (hn : nodeV ps id = some n) : G.node id = some n := by
  unfold nodeV at hn
  split at hn
  · rename_i p hp
    have hlt := pageAt_lt hp
    have hfit := h.fit
    unfold GA.node
    rw [if_pos (by omega), h.at_ _ _ hp]
    simp only
    unfold decodeA
    split at hn
    · rename_i h3
      rw [if_pos (.inl h3), decide_eq_true h3, hn]
    · rename_i h3
      split at hn
      · rename_i h2
        rw [if_pos (.inr h2), decide_eq_false h3, hn]
      · cases hn
  · cases hn
end Go.Proofs.YtepafbokbfcbgaaGreatDoor
namespace Go.Proofs.YtepafbokbfcbgaaGreatDoor
open Go.RowKit
def putsG (G : GA) : List PageA → GA
  | [] => G
  | p :: l => putsG (G.put p) l
def marksS (s : List Nat) : List PageA → List Nat
  | [] => s
  | p :: l => marksS (s.set p.id.toNat 1) l
theorem putsG_snoc : ∀ (l : List PageA) (G : GA) (p : PageA), putsG G (l ++ [p]) = (putsG G l).put p
  | [], _, _ => rfl
  | _ :: l, G, p => putsG_snoc l (G.put _) p
theorem marksS_snoc : ∀ (l : List PageA) (s : List Nat) (p : PageA), marksS s (l ++ [p]) = (marksS s l).set p.id.toNat 1
  | [], _, _ => rfl
  | _ :: l, s, p => marksS_snoc l (s.set _ 1) p
theorem putsG_same : ∀ (l : List PageA) (G : GA), (putsG G l).blocks = G.blocks ∧ (putsG G l).size = G.size ∧ (putsG G l).cost = G.cost + l.length
  | [], _ => ⟨rfl, rfl, rfl⟩
  | p :: l, G => by
    obtain ⟨h1, h2, h3⟩ := putsG_same l (G.put p)
    refine ⟨h1, h2, ?_⟩
    rw [putsG, h3, List.length_cons]
    show G.cost + 1 + l.length = _
    omega
theorem putsG_far : ∀ (l : List PageA) (G : GA) (i : Nat), (∀ p ∈ l, p.id.toNat ≠ i) → (putsG G l).view i = G.view i
  | [], _, _, _ => rfl
  | p :: l, G, i, h => by
    rw [putsG, putsG_far l _ i (fun q hq => h q (List.mem_cons_of_mem _ hq))]
    exact upd_ne _ _ (fun e => h p List.mem_cons_self e.symm)
/-- pages with Ids of their own. -/
def OwnIds (l : List PageA) : Prop := l.Pairwise fun a b => a.id.toNat ≠ b.id.toNat
theorem putsG_at : ∀ (l : List PageA) (G : GA) (p : PageA), OwnIds l → p ∈ l → (putsG G l).view p.id.toNat = some (.inl p)
  | [], _, _, _, h => by simp at h
  | q :: l, G, p, ho, h => by
    have h2 := List.pairwise_cons.1 ho
    rw [putsG]
    rcases List.mem_cons.1 h with rfl | h
    · rw [putsG_far l _ _ (fun q hq e => h2.1 q hq e.symm)]
      exact upd_self _ _ _
    · exact putsG_at l _ p h2.2 h
theorem marksS_len : ∀ (l : List PageA) (s : List Nat), (marksS s l).length = s.length
  | [], _ => rfl
  | p :: l, s => by rw [marksS, marksS_len l, List.length_set]
theorem marksS_far : ∀ (l : List PageA) (s : List Nat) (i : Nat), (∀ p ∈ l, p.id.toNat ≠ i) → (marksS s l)[i]? = s[i]?
  | [], _, _, _ => rfl
  | p :: l, s, i, h => by
    rw [marksS, marksS_far l _ i (fun q hq => h q (List.mem_cons_of_mem _ hq)), List.getElem?_set_ne (h p List.mem_cons_self)]
/-- pages that can be put on a disk of n blocks of 256 bytes. -/
structure PutsOk (n : Nat) (l : List PageA) : Prop where
  own : OwnIds l
  id : ∀ p ∈ l, 2 ≤ p.id ∧ p.id < (n : Int)
  gen : ∀ p ∈ l, p.gen < 18446744073709551616
  ok : ∀ p ∈ l, pgCheck p 256 = none
theorem PutsOk.new {n : Nat} {l : List PageA} (h : PutsOk n l) (_hn : 8 ≤ n) {i : Nat} {p : PageA} (hp : l[i]? = some p) : spMark (marksS (spNew n) (l.take i)) p.id = (marksS (spNew n) (l.take (i + 1)), none) := by
  have hm := List.mem_of_getElem? hp
  obtain ⟨h1, h2⟩ := h.id p hm
  have hlen : (marksS (spNew n) (l.take i)).length = n := by rw [marksS_len]; simp [spNew]
  have hc : spCheck (marksS (spNew n) (l.take i)) p.id = none := by
    unfold spCheck
    rw [if_neg (by rw [hlen]; omega)]
  have hz : (marksS (spNew n) (l.take i))[p.id.toNat]? = some 0 := by
    rw [marksS_far]
    · unfold spNew
      rw [List.getElem?_set_ne (by omega), List.getElem?_set_ne (by omega), List.getElem?_replicate, if_pos (by omega)]
    · intro q hq
      obtain ⟨j, hj, e⟩ := List.getElem_of_mem hq
      rw [List.getElem_take] at e
      simp only [List.length_take] at hj
      obtain ⟨hi, e2⟩ := List.getElem?_eq_some_iff.1 hp
      have := List.pairwise_iff_getElem.1 h.own j i (by omega) hi (by omega)
      rw [e, e2] at this
      exact this
  unfold spMark
  rw [hc]
  simp only [hz, if_true]
  rw [take_one l i p hp, marksS_snoc]
theorem PutsOk.put {l : List PageA} {i : Nat} {p : PageA} (hp : l[i]? = some p) (G : GA) : (putsG G (l.take i)).put p = putsG G (l.take (i + 1)) := by
  rw [take_one l i p hp, putsG_snoc]
/-- pages one behind the other, from 2 on. -/
theorem onG_puts {n : Nat} (hn : n ≤ 256) {ps : List PageA} (h : ∀ (j : Nat) (p : PageA), ps[j]? = some p → p.id = ((2 + j : Nat) : Int)) (hl : 2 + ps.length ≤ n) : OwnIds ps ∧ OnG (putsG (G0 n) ps) ps := by
  have ho : OwnIds ps := List.pairwise_iff_getElem.2 (fun i j hi hj hij => by
    have h1 := h i _ (List.getElem?_eq_getElem hi)
    have h2 := h j _ (List.getElem?_eq_getElem hj)
    rw [h1, h2]
    omega)
  obtain ⟨h1, h2, _⟩ := putsG_same ps (G0 n)
  refine ⟨ho, h2, by rw [h1]; exact hn, by rw [h1]; exact hl, fun id p hp => ?_⟩
  unfold pageAt at hp
  split at hp
  · cases hp
  · have e := h _ p hp
    have e2 : id = p.id.toNat := by rw [e]; omega
    rw [e2]
    exact putsG_at ps (G0 n) p ho (List.mem_of_getElem? hp)
theorem fit_puts {n gen : Nat} (hn : n ≤ 256) (hg : gen < 18446744073709551616) {ps : List PageA} (h : ∀ (j : Nat) (p : PageA), ps[j]? = some p → PgFit gen (2 + j) p) (hl : 2 + ps.length ≤ n) : PutsOk n ps ∧ OnG (putsG (G0 n) ps) ps := by
  obtain ⟨h1, h2⟩ := onG_puts hn (fun j p hp => (h j p hp).1) hl
  have hm : ∀ p ∈ ps, ∃ j, j < ps.length ∧ PgFit gen (2 + j) p := fun p hp => by
    obtain ⟨j, hj, e⟩ := List.getElem_of_mem hp
    exact ⟨j, hj, h j p (by rw [← e]; exact List.getElem?_eq_getElem hj)⟩
  refine ⟨⟨h1, fun p hp => ?_, fun p hp => ?_, fun p hp => ?_⟩, h2⟩
  · obtain ⟨j, hj, k1, _⟩ := hm p hp
    omega
  · obtain ⟨j, hj, _, k2, _⟩ := hm p hp
    omega
  · obtain ⟨j, hj, k1, k2, k3, k4⟩ := hm p hp
    unfold pgCheck
    rw [if_neg (by decide), if_neg]
    have hk : kindB p.kind = true := by
      unfold kindB
      rcases k3 with k3 | k3 | k3 <;> rw [k3] <;> decide
    rw [hk]
    simp
    omega
/-- a block that nothing was put on can't be read. -/
theorem puts_none {n : Nat} {ps : List PageA} {i : Nat} (hi : i < n) (h : ∀ p ∈ ps, p.id.toNat ≠ i) : (putsG (G0 n) ps).knows (i : Int) ∧ ∃ l, (putsG (G0 n) ps).get (i : Int) = .inr (l, 5) := by
  obtain ⟨l, hl⟩ := open_zero (i : Int)
  have hv : (putsG (G0 n) ps).view i = some (.inr (l, 5)) := by
    rw [putsG_far ps _ i h]
    show (if i < n then some (openAtP z256 i) else none) = _
    rw [if_pos hi, hl]
  refine ⟨fun _ => ⟨_, by rw [Int.toNat_natCast]; exact hv⟩, -1 :: l, get_bad (by rw [(putsG_same ps (G0 n)).1]; exact hi) hv⟩
/-- all pages are known. -/
def GA.total (G : GA) : Prop := ∀ i, i < G.blocks → ∃ r, G.view i = some r
theorem GA.total.knows {G : GA} (h : G.total) (id : Int) : G.knows id := fun hc => by
  unfold GA.check at hc
  split at hc
  · cases hc
  · exact h _ (by omega)
theorem GA.total.walk {G : GA} (h : G.total) : ∀ (f : Nat) (id n : Int), walkOk G f id n
  | 0, _, _ => trivial
  | f + 1, id, n => by
    rw [walkOk]
    exact fun _ => ⟨h.knows id, fun x _ _ => GA.total.walk h f _ _⟩
theorem G0_total (n : Nat) : (G0 n).total := fun i hi => by
  have h : i < n := hi
  exact ⟨openAtP z256 (i : Int), by show (if i < n then some (openAtP z256 (i : Int)) else none) = _; rw [if_pos h]⟩
theorem put_total {G : GA} (h : G.total) (p : PageA) : (G.put p).total := fun i hi => by
  show ∃ r, upd G.view p.id.toNat (some (.inl p)) i = some r
  by_cases e : i = p.id.toNat
  · subst e; rw [upd_self]; exact ⟨_, rfl⟩
  · rw [upd_ne _ _ e]; exact h i hi
theorem puts_total : ∀ (ps : List PageA) {G : GA}, G.total → (putsG G ps).total
  | [], _, h => h
  | p :: ps, _, h => puts_total ps (put_total h p)
theorem GA.total.find {G : GA} (h : G.total) (key : ByteArray) : ∀ (f : Nat) (id : Int), findOk G key f id
  | 0, _ => trivial
  | f + 1, id => ⟨h.knows id, fun _ _ _ => GA.total.find h key f _⟩
theorem GA.total.value {G : GA} (h : G.total) (e : EntryA) : valueOk G e := fun _ _ _ => h.walk _ _ _
theorem GA.total.look {G : GA} (h : G.total) (root : Int) (key : ByteArray) : lookOk G root key := ⟨h.find key 16 root, fun _ _ e _ _ => h.value e⟩
theorem G0_puts_total (n : Nat) (ps : List PageA) : (putsG (G0 n) ps).total := puts_total ps (G0_total n)
end Go.Proofs.YtepafbokbfcbgaaGreatDoor
namespace Go.Proofs.YtepafbokbfcbgaaGreatDoor
open Go.RowKit
theorem Tr.mono {V V' : Nat → Option NodeA} {R R' : Int → Int → Option ByteArray} {lo : ByteArray} {hi : Option ByteArray} {id d : Nat} {l : List PairS} (h : Tr V R lo hi id d l) (hV : ∀ id n, V id = some n → V' id = some n) (hR : ∀ c s v, R c s = some v → R' c s = some v) : Tr V' R' lo hi id d l := by
  induction h with
  | leaf h1 h2 h3 h4 h5 h6 =>
    refine .leaf (hV _ _ h1) h2 h3 h4 (fun i e x he hx => ?_) h6
    obtain ⟨k1, k2⟩ := h5 i e x he hx
    refine ⟨k1, ?_⟩
    unfold tellsE at *
    split at k2
    · rename_i hc; rw [if_pos hc]; exact k2
    · rename_i hc; rw [if_neg hc]; exact hR _ _ _ k2
  | inner h1 h2 h3 h4 _ h6 ih => exact .inner (hV _ _ h1) h2 h3 h4 ih h6
/-- the leaf of a key, and its pairs. -/
structure LeafOf (R : Int → Int → Option ByteArray) (m : NodeA) (p : List PairS) : Prop where
  leaf : m.leaf = true
  right : rightN m = true
  len : m.entries.length = p.length
  tells : ∀ (i : Nat) (e : EntryA) (x : PairS), m.entries[i]? = some e → p[i]? = some x → e.key = x.1 ∧ tellsE R e = some x.2
theorem Tr.path {V : Nat → Option NodeA} {R : Int → Int → Option ByteArray} {lo : ByteArray} {hi : Option ByteArray} {id d : Nat} {l : List PairS} (h : Tr V R lo hi id d l) (key : ByteArray) : inB lo hi key →
    ∃ st m p, PathA V key id d st m ∧ LeafOf R m p ∧ st.length = d ∧ findP key l = findP key p := by
  induction h with
  | @leaf lo hi id n l h1 h2 h3 h4 h5 h6 => exact fun _ => ⟨_, n, l, .leaf h1 h2, ⟨h2, h3, h4, h5⟩, rfl, rfl⟩
  | @inner lo hi id n d parts h1 h2 h3 h4 h5 h6 ih =>
    intro hk
    obtain ⟨r1, r2, _⟩ := rightN_inner h3 h2
    obtain ⟨k, p, q1, q2, q3, q4⟩ := inner_find r1 r2 h4 h5 hk
    obtain ⟨st, m, p2, s1, s2, s4, s5⟩ := ih _ k p q1 q2 q3
    exact ⟨_, m, p2, .inner h1 h2 q1 s1, s2, by rw [List.length_cons, s4], q4.trans s5⟩
theorem PathA.last {V : Nat → Option NodeA} {key : ByteArray} {id d : Nat} {st : List (Nat × Nat)} {m : NodeA} (h : PathA V key id d st m) : ∃ st0 id', st = st0 ++ [(id', entAt key m.entries)] ∧ V id' = some m := by
  induction h with
  | leaf h1 h2 => exact ⟨[], _, rfl, h1⟩
  | inner h1 h2 h3 h4 ih =>
    obtain ⟨st0, id', e1, e2⟩ := ih
    exact ⟨_ :: st0, id', by rw [e1]; rfl, e2⟩
/-- what a chain reads as, if all of it is known. -/
noncomputable def GA.R2 (G : GA) (c s : Int) : Option ByteArray := open Classical in if walkOk G s.toNat c s then G.R c s else none
theorem GA.R2_some {G : GA} {c s : Int} {v : ByteArray} (h : G.R2 c s = some v) : walkOk G s.toNat c s ∧ G.R c s = some v := by
  unfold GA.R2 at h
  split at h
  · rename_i hw; exact ⟨hw, h⟩
  · cases h
theorem OnG.fits2 {G : GA} {ps : List PageA} (h : OnG G ps) (gen : Nat) : FitsR ps gen G.R2 := fun c s v hc => by
  obtain ⟨h1, h2⟩ := h.chain hc
  unfold GA.R2
  rw [if_pos h2, h1]
theorem value_tells {G : GA} {e : EntryA} {v : ByteArray} (h : tellsE G.R2 e = some v) : valueA G e = .inl v ∧ valueOk G e := by
  unfold tellsE at h
  unfold valueA valueOk
  by_cases hc : e.chain = 0
  · rw [if_pos hc] at h ⊢
    exact ⟨by rw [Option.some.inj h], fun hn => absurd hc hn⟩
  · rw [if_neg hc] at h ⊢
    obtain ⟨h1, h2⟩ := GA.R2_some h
    refine ⟨?_, fun _ _ _ => h1⟩
    unfold GA.R at h2
    split at h2
    · rename_i h3
      rw [h3]
      simp only
      rw [Option.some.inj h2]
    · cases h2
theorem inB_all (k : ByteArray) : inB e0 none k := by
  refine ⟨?_, fun h hh => by cases hh⟩
  unfold ltS
  have : e0.toList = [] := by simp [ByteArray.toList_eq]
  rw [this]
  cases k.toList <;> rfl
/-- a tree of pairs on a pager. -/
def TreeG (G : GA) (root d : Nat) (l : List PairS) : Prop :=
  (l = [] ∧ root = 0 ∧ d = 0) ∨ (2 ≤ root ∧ root < 256 ∧ d ≤ 16 ∧ Tr G.node G.R2 e0 none root d l)
theorem tree_built {G : GA} {gen e k : Nat} {l : List PairS} (hT : Tame 300 l) (he : 1 ≤ e) (he2 : e ≤ 3) (hk : 2 ≤ k) (hk2 : k ≤ 4) (h : OnG G (buildA gen e k l).1) : TreeG G (buildA gen e k l).2.1 (buildA gen e k l).2.2 l := by
  by_cases h0 : l = []
  · subst h0
    exact .inl ⟨rfl, rfl, rfl⟩
  · have hf := hT.few gen e k he hk
    have := hT.len
    obtain ⟨h1, h2, h3, h4⟩ := build_tr gen e k he (by omega) hk (by omega) hT.sorted hT.ok h0 (by omega) (by omega) (h.fits2 gen)
    exact .inr ⟨h2, h3, h4, (h1 e0 none (fun x _ => inB_all _)).mono (fun id n hn => h.node hn) (fun _ _ _ hr => hr)⟩
theorem lkCheck_ok {key : ByteArray} (h : keyB key = true) : lkCheck key = none := by unfold lkCheck; rw [if_pos h]
/-- the steps to a key, as a pager's walk. -/
def stI (st : List (Nat × Nat)) : List (Int × Nat) := st.map fun x => ((x.1 : Int), x.2)
theorem leaf_at {R : Int → Int → Option ByteArray} {m : NodeA} {p : List PairS} (h : LeafOf R m p) (key : ByteArray) : findP key p = leafTells R key m := leaf_find (rightN_leaf h.right h.leaf) h.len h.tells key
theorem LeafOf.ent {R : Int → Int → Option ByteArray} {m : NodeA} {p : List PairS} (h : LeafOf R m p) {i : Nat} {e : EntryA} (he : m.entries[i]? = some e) : ∃ v, tellsE R e = some v := by
  have hi := (List.getElem?_eq_some_iff.1 he).1
  have hp : i < p.length := by rw [← h.len]; exact hi
  exact ⟨_, (h.tells i e _ he (List.getElem?_eq_getElem hp)).2⟩
/-- what the leaf tells of a key. -/
theorem leaf_says {R : Int → Int → Option ByteArray} {m : NodeA} {p : List PairS} (h : LeafOf R m p) (key : ByteArray) :
    (entIs key m.entries = true ∧ ∃ e v, m.entries[entAt key m.entries]? = some e ∧ e.key = key ∧ tellsE R e = some v ∧ findP key p = some v) ∨ (entIs key m.entries = false ∧ findP key p = none) := by
  rw [leaf_at h]
  unfold leafTells entIs
  cases hm : m.entries[entAt key m.entries]? with
  | none => exact .inr ⟨rfl, rfl⟩
  | some e =>
    simp only
    by_cases hk : e.key = key
    · rw [if_pos hk, decide_eq_true hk]
      obtain ⟨v, hv⟩ := h.ent hm
      exact .inl ⟨rfl, e, v, rfl, hk, hv, hv⟩
    · rw [if_neg hk, decide_eq_false hk]
      exact .inr ⟨rfl, rfl⟩
theorem Tr.onG {G : GA} {root d : Nat} {l : List PairS} (h : Tr G.node G.R2 e0 none root d l) (hd : d ≤ 16) (key : ByteArray) :
    ∃ st m p, PathA G.node key root d st m ∧ LeafOf G.R2 m p ∧ st.length = d ∧ findP key l = findP key p ∧ Go.Proofs.YtepafbokbfcbgaaGreatDoor.findA G key 16 [] (root : Int) = .inl (stI st, m) ∧ findOk G key 16 (root : Int) := by
  obtain ⟨st, m, p, h1, h2, h3, h4⟩ := h.path key (inB_all key)
  obtain ⟨k1, k2⟩ := h1.findA 16 [] hd (fun id n k hn hk => node_kids id n k hn hk)
  exact ⟨st, m, p, h1, h2, h3, h4, by rw [k1]; rfl, k2⟩
/-- GET. -/
theorem TreeG.look {G : GA} {root d : Nat} {l : List PairS} (h : TreeG G root d l) {key : ByteArray} (hk : keyB key = true) : lookA G (root : Int) key = .inl (findP key l) := by
  rcases h with ⟨rfl, rfl, rfl⟩ | ⟨h1, _, h2, h3⟩
  · unfold lookA
    rw [lkCheck_ok hk]
    rfl
  · obtain ⟨st, m, p, k1, k2, k3, k4, k5, k6⟩ := h3.onG h2 key
    unfold lookA
    rw [lkCheck_ok hk, k5]
    simp only
    rw [if_neg (by omega), findN_leaf k2.leaf, k4]
    rcases leaf_says k2 key with ⟨j1, e, v, j2, j3, j4, j5⟩ | ⟨j1, j2⟩
    · simp only [j1, j2, if_true, (value_tells j4).1, j5]
    · rw [j2]
      simp only [j1]
      split <;> rfl
/-- .. of a text that is no key. -/
theorem path_no (G : GA) (root : Int) {key : ByteArray} (hk : keyB key = false) : pathA G root key = .inr ([-1], 2) := by
  unfold pathA lkCheck
  rw [if_neg (by rw [hk]; simp)]
theorem look_no (G : GA) (root : Int) {key : ByteArray} (hk : keyB key = false) : lookA G root key = .inr ([-1], 2) := by
  unfold lookA lkCheck
  rw [if_neg (by rw [hk]; simp)]
/-- PATH. -/
theorem TreeG.path {G : GA} {root d : Nat} {l : List PairS} (h : TreeG G root d l) {key : ByteArray} (hk : keyB key = true) :
    (l = [] ∧ root = 0 ∧ d = 0 ∧ pathA G (root : Int) key = .inl ([], false)) ∨
    ∃ st m p, PathA G.node key root d st m ∧ LeafOf G.R2 m p ∧ st.length = d ∧ findP key l = findP key p ∧ pathA G (root : Int) key = .inl (stI st, (findP key l).isSome) := by
  rcases h with ⟨rfl, rfl, rfl⟩ | ⟨h1, _, h2, h3⟩
  · refine .inl ⟨rfl, rfl, rfl, ?_⟩
    unfold pathA
    rw [lkCheck_ok hk]
    rfl
  · obtain ⟨st, m, p, k1, k2, k3, k4, k5, k6⟩ := h3.onG h2 key
    refine .inr ⟨st, m, p, k1, k2, k3, k4, ?_⟩
    unfold pathA
    rw [lkCheck_ok hk, k5]
    simp only
    rw [if_neg (by omega), findN_leaf k2.leaf, k4]
    rcases leaf_says k2 key with ⟨j1, e, v, j2, j3, j4, j5⟩ | ⟨j1, j2⟩
    · rw [j1, j5]; rfl
    · rw [j1, j2]; rfl
end Go.Proofs.YtepafbokbfcbgaaGreatDoor
namespace Go.Proofs.YtepafbokbfcbgaaGreatDoor
open Go.RowKit
/-- what a walk has seen. -/
structure WkS where
  pages : List Int
  keys : List ByteArray
  depth : Nat
def WkS.last (s : WkS) : ByteArray := s.keys.getLastD e0
/-- where a node stands. -/
structure Place where
  id : Int
  depth : Nat
  lo : ByteArray
  hi : ByteArray
def corrE (id : Int) : Err := ([pgOf id], 5)
def seeW (s : WkS) (id : Int) : WkS ⊕ Err := if id ∈ s.pages then .inr (corrE id) else .inl { s with pages := s.pages ++ [id] }
def youngW (G : GA) (gen : Nat) (id : Int) : PageA ⊕ Err := match G.get id with
  | .inr e => .inr e
  | .inl p => if gen < p.gen then .inr (corrE id) else .inl p
/-- a chain's pages come. -/
def idsW (G : GA) (gen : Nat) : List Int → WkS → WkS ⊕ Err
  | [], s => .inl s
  | id :: r, s => match seeW s id with
    | .inr e => .inr e
    | .inl s1 => match youngW G gen id with
      | .inr e => .inr e
      | .inl _ => idsW G gen r s1
def chainedW (G : GA) (gen : Nat) (e : EntryA) (s : WkS) : WkS ⊕ Err :=
  if e.chain = 0 then .inl s else match chErr G e.chain e.size with
    | some er => .inr er
    | none => idsW G gen ((walkA G e.size.toNat e.chain e.size).1.map (·.1)) s
def entBad (a : Place) (s : WkS) (e : EntryA) : Bool := leS e.key s.last || ltS e.key a.lo || (decide (a.hi ≠ e0) && leS a.hi e.key)
def entsW (G : GA) (gen : Nat) (a : Place) : List EntryA → WkS → WkS ⊕ Err
  | [], s => .inl s
  | e :: r, s => if entBad a s e = true then .inr (corrE a.id) else
    match chainedW G gen e { s with keys := s.keys ++ [e.key] } with
    | .inr er => .inr er
    | .inl s1 => entsW G gen a r s1
def atDepth (a : Place) (s : WkS) : WkS := if s.depth = 0 then { s with depth := a.depth } else s
def leafW (G : GA) (gen : Nat) (n : NodeA) (a : Place) (s : WkS) : WkS ⊕ Err :=
  if a.depth ≠ (atDepth a s).depth ∨ (n.entries = [] ∧ 1 < a.depth) then .inr (corrE a.id) else entsW G gen a n.entries (atDepth a s)
def kidPlace (n : NodeA) (a : Place) (i : Nat) (k : Int) : Place :=
  ⟨k, a.depth + 1, if i = 0 then a.lo else n.keys.getD (i - 1) e0, if i < n.keys.length then n.keys.getD i e0 else a.hi⟩
def kidBad (a b : Place) : Bool := ltS b.lo a.lo || (decide (a.hi ≠ e0) && ltS a.hi b.hi)
def kidsW (rec_ : Place → WkS → WkS ⊕ Err) (n : NodeA) (a : Place) : List Int → Nat → WkS → WkS ⊕ Err
  | [], _, s => .inl s
  | k :: r, i, s => if kidBad a (kidPlace n a i k) = true then .inr (corrE a.id) else
    match rec_ (kidPlace n a i k) s with
    | .inr e => .inr e
    | .inl s1 => kidsW rec_ n a r (i + 1) s1
/-- a node, and all beneath it; the fuel is 17 less its depth. -/
def nodeW (G : GA) (gen : Nat) : Nat → Place → WkS → WkS ⊕ Err
  | 0, a, _ => .inr (corrE a.id)
  | f + 1, a, s => match seeW s a.id with
    | .inr e => .inr e
    | .inl s1 => match youngW G gen a.id with
      | .inr e => .inr e
      | .inl p => match decodeA p with
        | .inr e => .inr e
        | .inl n => if n.leaf = true then leafW G gen n a s1 else kidsW (nodeW G gen f) n a n.kids 0 s1
def wk0 : WkS := ⟨[], [], 0⟩
/-- a whole tree's report. -/
def walkW (G : GA) (gen : Nat) (root : Int) : WkS ⊕ Err :=
  if root = 0 then .inl wk0 else match nodeW G gen 16 ⟨root, 1, e0, e0⟩ wk0 with
    | .inr (l, k) => .inr (-1 :: l, k)
    | .inl s => .inl s
end Go.Proofs.YtepafbokbfcbgaaGreatDoor
