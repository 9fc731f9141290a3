/- insert.Put, as plain Lean, and what a step of it leaves alone though it fails. | insert.settle: a node that fits is put down. | insert.entry of a short value; insert.leaf of a new key with a short value in a node that fits. | insert.leaf of a new key with a short value, in a leaf where it fits. | insert.check; insert.Put of a short pair into an empty tree. -/
import Derived.Test.YtpjpldedebddgaaGreatDoorK32
import Derived.Test.YtpjpldedebddgaaGreatDoorK31
import Derived.Test.YtpjpldedebddgaaGreatDoorK25
namespace Go.Proofs.YtpjpldedebddgaaGreatDoor
open Go.RowKit
/-- what became of a node: one page, or two with a key between. -/
structure OutA where
  id0 : Nat
  id1 : Nat
  key : ByteArray
  two : Bool
  news : Bool
/-- a step's answer: the pager's state behind it and a value; or the error's code. -/
abbrev StA (α : Type) := (GA × List Nat × α) ⊕ Nat
def settleA (G : GA) (l : List Nat) (gen old : Nat) (n : NodeA) : StA OutA :=
  if weightN n ≤ (G.size : Int) - 24 then (match downI G l old n with
    | some i => .inl (downG G l gen old n, downL G l old n, ⟨i, 0, e0, false, false⟩)
    | none => .inr (downK G n))
  else match cutA n with
    | none => .inr 8
    | some (a, k, b) => if weightN a ≤ (G.size : Int) - 24 ∧ weightN b ≤ (G.size : Int) - 24 then (match downI G l old a with
        | none => .inr (downK G a)
        | some i => match downI (downG G l gen old a) (downL G l old a) 0 b with
          | none => .inr (downK (downG G l gen old a) b)
          | some j => .inl (downG (downG G l gen old a) (downL G l old a) gen 0 b, downL (downG G l gen old a) (downL G l old a) 0 b, ⟨i, j, k, true, false⟩))
      else .inr 8
def entryP (G : GA) (l : List Nat) (gen : Nat) (key v : ByteArray) : StA EntryA :=
  if v.size ≤ 24 then .inl (G, l, ⟨key, v, 0, 0⟩) else match takeA (needN v.size G.size).toNat l with
    | some (ids, l1) => .inl (chPuts gen v.data.toList (G.size - 28) ids ids.length G, l1, ⟨key, e0, ((ids.getD 0 0 : Nat) : Int), (v.size : Int)⟩)
    | none => .inr 3
/-- the pages of the chain that stands under a key in a leaf. -/
def oldIds (G : GA) (n : NodeA) (key : ByteArray) : List Nat := match n.entries[entAt key n.entries]? with
  | none => []
  | some e => if entIs key n.entries = true ∧ e.chain ≠ 0 then (walkA G e.size.toNat e.chain e.size).1.map (fun x => x.1.toNat) else []
/-- a leaf with a pair. -/
def withE (n : NodeA) (key : ByteArray) (e : EntryA) : NodeA :=
  { n with entries := n.entries.take (entAt key n.entries) ++ [e] ++ n.entries.drop (entAt key n.entries + if entIs key n.entries = true then 1 else 0) }
def leafA (G : GA) (l : List Nat) (gen id : Nat) (n : NodeA) (key v : ByteArray) : StA OutA :=
  match entryP (giveG G (oldIds G n key)) (giveL l (oldIds G n key)) gen key v with
  | .inr k => .inr k
  | .inl (G1, l1, e) => match settleA G1 l1 gen id (withE n key e) with
    | .inr k => .inr k
    | .inl (G2, l2, o) => .inl (G2, l2, { o with news := !entIs key n.entries })
/-- a node whose kid became something else. -/
def joinA (n : NodeA) (i : Nat) (o : OutA) : NodeA :=
  if o.two = true then { n with kids := n.kids.take i ++ [(o.id0 : Int), (o.id1 : Int)] ++ n.kids.drop (i + 1), keys := n.keys.take i ++ [o.key] ++ n.keys.drop (i + 0) }
  else { n with kids := n.kids.take i ++ [(o.id0 : Int)] ++ n.kids.drop (i + 1) }
def putA (gen : Nat) (key v : ByteArray) : Nat → GA → List Nat → Nat → StA OutA
  | 0, _, _, _ => .inr 5
  | f + 1, G, l, id => match G.load id with
    | .inr e => .inr e.2
    | .inl n => if n.leaf = true then leafA G l gen id n key v else match putA gen key v f G l (n.kids.getD (kidAt key n.keys) 0).toNat with
      | .inr k => .inr k
      | .inl (G1, l1, o) => match settleA G1 l1 gen id (joinA n (kidAt key n.keys) o) with
        | .inr k => .inr k
        | .inl (G2, l2, o2) => .inl (G2, l2, { o2 with news := o.news })
def leaf0 : NodeA := ⟨true, [], [], []⟩
/-- a new root over two. -/
def rootA (o : OutA) : NodeA := ⟨false, [], [o.key], [(o.id0 : Int), (o.id1 : Int)]⟩
def putCheck (key v : ByteArray) : Option Nat := if keyB key = false then some 2 else if 4096 < v.size then some 8 else none
/-- insert.Put: the root, and whether the key is new. -/
def putR (G : GA) (l : List Nat) (gen root : Nat) (key v : ByteArray) : StA (Nat × Bool) :=
  match putCheck key v with
  | some k => .inr k
  | none => match (if root = 0 then leafA G l gen 0 leaf0 key v else putA gen key v 16 G l root) with
    | .inr k => .inr k
    | .inl (G1, l1, o) => if o.two = false then .inl (G1, l1, (o.id0, o.news)) else match downI G1 l1 0 (rootA o) with
      | none => .inr (downK G1 (rootA o))
      | some i => .inl (downG G1 l1 gen 0 (rootA o), downL G1 l1 0 (rootA o), (i, o.news))
/-! ### what holds whatever comes -/
structure FrG (G : GA) (l : List Nat) (G' : GA) (l' : List Nat) : Prop where
  sz : G'.size = G.size
  bl : G'.blocks = G.blocks
  len : l'.length = l.length
  keep : ∀ i, l[i]? = some 1 ∨ l[i]? = some 3 → (l'[i]? = some 1 ∨ l'[i]? = some 3) ∧ G'.look i = G.look i ∧ (G'.view i = G.view i ∨ G'.view i = openO (G.look i) i)
  low : ∀ i, i < 2 → l[i]? = some 1 → l'[i]? = some 1
  other : ∀ i : Nat, l[i]? = some 0 ∨ l[i]? = some 2 → l'[i]? = some 0 ∨ l'[i]? = some 2
section
variable {G G1 G2 : GA} {l l1 l2 : List Nat}
theorem FrG.refl (G : GA) (l : List Nat) : FrG G l G l := ⟨rfl, rfl, rfl, fun _ h => ⟨h, rfl, .inl rfl⟩, fun _ _ h => h, fun _ h => h⟩
theorem FrG.trans (h : FrG G l G1 l1) (k : FrG G1 l1 G2 l2) : FrG G l G2 l2 :=
  ⟨k.sz.trans h.sz, k.bl.trans h.bl, k.len.trans h.len, fun i hi => by
    obtain ⟨h1, h2, h3⟩ := h.keep i hi
    obtain ⟨k1, k2, k3⟩ := k.keep i h1
    refine ⟨k1, k2.trans h2, ?_⟩
    rcases k3 with k3 | k3
    · rw [k3]; exact h3
    · rw [k3, h2]; exact .inr rfl, fun i hi h1 => k.low i hi (h.low i hi h1), fun i hi => k.other i (h.other i hi)⟩
/-- the blocks 0 and 1 last. -/
def LowL (l : List Nat) : Prop := l[0]? = some 1 ∧ l[1]? = some 1
theorem FrG.lowL (h : FrG G l G1 l1) (hl : LowL l) : LowL l1 := ⟨h.low 0 (by omega) hl.1, h.low 1 (by omega) hl.2⟩
theorem LowL.ok (h : LowL l) : spOk l := ⟨by rw [h.1]; simp, by rw [h.2]; simp⟩
theorem Upd.fr {A A1 : Nat → Prop} (h : Upd G l A G1 l1 A1) (hA : ∀ i, A i → 2 ≤ i) : FrG G l G1 l1 := by
  refine ⟨h.sz, h.bl, h.len, fun i hi => ⟨?_, h.keep i hi⟩, fun i hi h1 => ?_, fun i hi => ?_⟩
  · by_cases h1 : A1 i
    · rcases h.inn i h1 with ⟨_, h2⟩ | ⟨h2, _⟩
      · rw [h2]; exact hi
      · rcases hi with e | e <;> rw [h2] at e <;> simp at e
    · by_cases ha : A i
      · rcases h.gone i ha h1 with ⟨h2, _⟩ | ⟨_, h2⟩
        · rcases hi with e | e <;> rw [h2] at e <;> simp at e
        · exact .inr h2
      · rw [(h.rest i ha h1).1]; exact hi
  · have ha : ¬ A i := fun ha => by have := hA i ha; omega
    have hn : ¬ A1 i := fun h2 => by
      rcases h.inn i h2 with ⟨h3, _⟩ | ⟨h3, _⟩
      · exact ha h3
      · rw [h3] at h1; simp at h1
    rw [(h.rest i ha hn).1]; exact h1
  · by_cases h1 : A1 i
    · rcases h.inn i h1 with ⟨_, h2⟩ | ⟨_, h2⟩
      · rw [h2]; exact hi
      · exact .inr h2
    · by_cases ha : A i
      · rcases h.gone i ha h1 with ⟨_, h2⟩ | ⟨h2, _⟩
        · exact .inl h2
        · rcases hi with e | e <;> rw [h2] at e <;> simp at e
      · rw [(h.rest i ha h1).1]; exact hi
theorem downL_none {G : GA} {l : List Nat} {old : Nat} {n : NodeA} (h : downI G l old n = none) (_ho : old = 0 ∨ (2 ≤ old ∧ (l[old]? = some 1 ∨ l[old]? = some 2))) : downL G l old n = l := by
  unfold downI at h
  unfold downL
  split at h
  · rename_i hd
    rw [if_pos hd]
    unfold placeI at h
    unfold placeL
    split at h
    · cases h
    · rename_i hf
      by_cases hz : old = 0
      · rw [if_pos hz]; unfold spTake; rw [h]
      · rw [if_neg hz, if_neg (fun hf2 => hf ⟨hz, hf2⟩), h]
  · rename_i hd; rw [if_neg hd]
theorem downG_none {gen old : Nat} {n : NodeA} (h : downI G l old n = none) : downG G l gen old n = G := by unfold downG; rw [h]
/-- where a node goes. -/
def PlaceOf (l : List Nat) (old : Nat) : Prop := old = 0 ∨ (2 ≤ old ∧ (l[old]? = some 1 ∨ l[old]? = some 2))
theorem PlaceOf.ok {old : Nat} (h : PlaceOf l old) : placeOk l old := h.imp id (fun h => h.2)
theorem PlaceOf.two {old : Nat} (h : PlaceOf l old) : old = 0 ∨ 2 ≤ old := h.imp id (fun h => h.1)
theorem PlaceOf.lt {old : Nat} (h : PlaceOf l old) (hl : l.length ≤ 256) : old < 256 := by
  rcases h with rfl | ⟨_, h | h⟩
  · omega
  · have := (List.getElem?_eq_some_iff.1 h).1; omega
  · have := (List.getElem?_eq_some_iff.1 h).1; omega
/-- a node is put down: its page comes in the place of the old one's. -/
theorem upd_down {gen old i : Nat} {n : NodeA} (ho : PlaceOf l old) (hi : downI G l old n = some i) (h0 : l[0]? ≠ some 0) :
    Upd G l (fun k => k = old ∧ old ≠ 0) (downG G l gen old n) (downL G l old n) (fun k => k = i) ∧ phiL l - (if old = 0 then 1 else 0) ≤ phiL (downL G l old n) ∧ 1 ≤ i ∧ i < l.length ∧ (downG G l gen old n).view i = some (.inl ⟨kindA n, (i : Int), gen, bytesN n⟩) ∧ downOk n G.size := by
  have hd : downOk n G.size := by
    unfold downI at hi
    split at hi
    · rename_i h; exact h
    · cases hi
  have hp : placeI l old = some i := by unfold downI at hi; rw [if_pos hd] at hi; exact hi
  have e1 : downG G l gen old n = (placeG G l old).put ⟨kindA n, (i : Int), gen, bytesN n⟩ := by unfold downG; rw [hi]
  have e2 : downL G l old n = placeL l old := by unfold downL; rw [if_pos hd]
  obtain ⟨u1, u2, u3⟩ := upd_place (G := G) ho hp ⟨kindA n, (i : Int), gen, bytesN n⟩ rfl h0
  rw [e1, e2]
  exact ⟨u1, u2, u3, placeI_lt hp, by rw [put_view]; simp, hd⟩
theorem fr_down {gen old : Nat} {n : NodeA} (ho : PlaceOf l old) (h0 : l[0]? ≠ some 0) : FrG G l (downG G l gen old n) (downL G l old n) := by
  cases hi : downI G l old n with
  | none => rw [downG_none hi, downL_none hi ho]; exact FrG.refl G l
  | some i => exact (upd_down ho hi h0).1.fr (fun k hk => by
      obtain ⟨rfl, hz⟩ := hk
      rcases ho with h | h
      · exact absurd h hz
      · exact h.1)
theorem fr_giveFree : ∀ (a : List Nat) (G : GA) (l : List Nat), (∀ i ∈ a, l[i]? = some 0) → FrG G l (giveG G a) l
  | [], G, l, _ => FrG.refl G l
  | x :: a, G, l, h => by
    have h1 : FrG G l (G.drop x) l := ⟨rfl, rfl, rfl, fun i hi => ⟨hi, rfl, .inl (by
      have hne : i ≠ x := fun e => by rw [e, h x List.mem_cons_self] at hi; simp at hi
      rw [drop_view, if_neg hne])⟩, fun _ _ h => h, fun _ h => h⟩
    exact h1.trans (fr_giveFree a (G.drop x) l (fun i hi => h i (List.mem_cons_of_mem _ hi)))
end
end Go.Proofs.YtpjpldedebddgaaGreatDoor
namespace Go.Proofs.YtpjpldedebddgaaGreatDoor
open Go.RowKit
attribute [local go_sem ↓] Go.wp_at_zero Go.wp_at_succ
/-- a variable of a function's own, beside a pager. -/
structure VarR (F P : Nat → Prop) (w0 wr : World) (b : Nat) (c : Array Value) (t : TypeId) : Prop where
  blk : Blk wr b c t
  f : F b
  p : ¬ P b
  new : w0.heap.size ≤ b
section
variable {P P' F F' : Nat → Prop} {ad : Nat → Addr} {w0 w w' : World} {b b2 : Nat} {c c2 : Array Value} {t t2 : TypeId}
theorem VarR.nxt (h : VarR F P w0 w b c t) (n : Nxt P P' F F' ad w w') : VarR F' P' w0 w' b c t := ⟨n.blk h.blk h.p, n.grow b h.f, n.not h.blk.lt h.p, h.new⟩
theorem VarR.ext (h : VarR F P w0 w b c t) (m : Ext w w') : VarR F P w0 w' b c t := ⟨h.blk.ext m, h.f, h.p, h.new⟩
theorem VarR.other (h : VarR F P w0 w b c t) {b2 : Nat} (m : Mods (fun k => k = b2) w w') (hb : b ≠ b2) : VarR F P w0 w' b c t := ⟨h.blk.mods m hb, h.f, h.p, h.new⟩
end
section
variable {P P0 F F0 : Nat → Prop} {ad : Nat → Addr} {w0 w w' : World} {b : Nat} {cc : Array Value} {t : TypeId} {c s : Nat} {G : GA} {l : List Nat}
theorem PgR.var (h : PgR F w P c s G l) (v : VarR F P w0 w b cc t) (m : Mods (fun k => k = b) w w') : PgR F w' P c s G l := h.res m v.p v.f
theorem Nxt.var (n : Nxt P0 P F0 F ad w0 w) (v : VarR F P w0 w b cc t) (m : Mods (fun k => k = b) w w') : Nxt P0 P F0 F ad w0 w' := n.resD m v.new v.f
theorem VarR.put (v : VarR F P w0 w b cc t) (i : Nat) (x : Value) : VarR F P w0 (w.setCell ⟨b, i, none⟩ x) b (cc.setIfInBounds i x) t := ⟨v.blk.set i x, v.f, v.p, v.new⟩
theorem VarR.mF (v : VarR F P w0 w b cc t) (m : Mods (fun k => k = b) w w') : Mods F w w' := m.mono (fun _ hk => hk ▸ v.f)
end
def outC (o : OutA) : Array Value := #[.int .i64 (o.id0 : Int), .int .i64 (o.id1 : Int), .string o.key, .bool o.two, .bool o.news]
def out0 : OutA := ⟨0, 0, e0, false, false⟩
abbrev outZc : Array Value := #[.int .i64 0, .int .i64 0, .string ⟨#[]⟩, .bool false, .bool false]
/-- what became of a node, or why nothing did. -/
def OutP (F P : Nat → Prop) (ad : Nat → Addr) (w : World) (c s : Nat) (G : GA) (l : List Nat) (r : StA OutA) (e : Ending) (w' : World) : Prop :=
  ∃ (P' F' : Nat → Prop) (G' : GA) (l' : List Nat), PgR F' w' P' c s G' l' ∧ Nxt P P' F F' ad w w' ∧
    ((∃ o, r = .inl (G', l', o) ∧ e = .returned (.tuple #[.agg (outC o), .nilIface])) ∨
     (∃ k o f el, r = .inr k ∧ FrG G l G' l' ∧ e = .returned (.tuple #[.agg (outC o), faultV f]) ∧ ErrC F' ad w' (faultV f) el k))
theorem Tryz.outSz : (Tryz.prog.info? 135).map (·.size) = some 5 := by kernel_rfl
theorem downI_ok {G : GA} {l : List Nat} {old i : Nat} {n : NodeA} (h : downI G l old n = some i) : downOk n G.size := by
  unfold downI at h
  split at h
  · rename_i hd; exact hd
  · cases h
theorem downG_lim (G : GA) (l : List Nat) (gen old : Nat) (n : NodeA) : (downG G l gen old n).size = G.size ∧ (downG G l gen old n).blocks = G.blocks ∧ (downG G l gen old n).cost ≤ G.cost + 1 := by
  unfold downG
  split
  · exact ⟨rfl, rfl, by omega⟩
  · obtain ⟨h1, h2, h3⟩ := placeG_lim G l old
    exact ⟨h1, h2, by show (placeG G l old).cost + 1 ≤ _; omega⟩
/-- a node that may be settled. -/
structure SetOk (G : GA) (l : List Nat) (old : Nat) (n : NodeA) : Prop where
  place : PlaceOf l old
  low : LowL l
  len : l.length ≤ G.blocks
  cost : G.cost + 10 ≤ 1000000
  wt : weightN n ≤ 100000
  bytes : rightN n = true → (bytesN n).length ≤ 100000
  cut : ¬ weightN n ≤ (G.size : Int) - 24 → ∃ a k b, cutA n = some (a, k, b) ∧ weightN a ≤ (G.size : Int) - 24 ∧ weightN b ≤ (G.size : Int) - 24
  few : n.entries.length ≤ 100000 ∧ n.keys.length ≤ 100000 ∧ n.kids.length ≤ 100000
section
variable {P P' F F' : Nat → Prop} {ad : Nat → Addr} {w w' : World} {c s : Nat} {G : GA} {l : List Nat}
set_option maxRecDepth 100000 in
set_option maxHeartbeats 4000000 in
theorem settleF_any (n : NodeA) (hF : weightN n ≤ (G.size : Int) - 24) (hL : Env F ad w) (hP : ∀ k, P k → F k) (h : PgR F w P c s G l) (gen old : Nat) (hgen : gen < 18446744073709551616) (ve vk vi : Value) (hve : Sl F w 4 encE ve n.entries) (hvk : Sl F w 1 encS vk n.keys) (hvi : Sl F w 1 encI vi n.kids) (hok : SetOk G l old n) :
    Calls Tryz.prog 141 #[pgV c s gen, .int .i64 (old : Int), .agg #[.bool n.leaf, ve, vk, vi]] w (OutP F P ad w c s G l (settleA G l gen old n)) := by
  have HFF := Lib.hid hF
  clear hF
  obtain ⟨w1, hw1⟩ : ∃ w1, w1 = (((w.alloc (.cells #[.pointer (some ⟨c, 0, none⟩), .pointer (some ⟨s, 0, none⟩), .int .u64 (gen : Int)] 48)).alloc (.cells #[.bool n.leaf, ve, vk, vi] 26)).alloc (.cells outZc 135)).alloc (.cells outZc 135) := ⟨_, rfl⟩
  have m0 : Ext w w1 := by rw [hw1]; exact ((((Mods.refl _ w).alloc _).alloc _).alloc _).alloc _
  have hz : w1.heap.size = w.heap.size + 4 := by rw [hw1]; simp
  have hN : Nxt P P F (fun k => F k ∨ (w.heap.size ≤ k ∧ k < w1.heap.size)) ad w w1 := Nxt.new hL hP (Q := fun k => w.heap.size ≤ k ∧ k < w1.heap.size) m0 (fun k hk => hk.1) (fun k hk => hk.2)
  have HB := Lib.hid (show VarR (fun k => F k ∨ (w.heap.size ≤ k ∧ k < w1.heap.size)) P w w1 w.heap.size #[.pointer (some ⟨c, 0, none⟩), .pointer (some ⟨s, 0, none⟩), .int .u64 (gen : Int)] 48 from ⟨by rw [hw1]; exact (((Blk.new w _ _).alloc _).alloc _).alloc _, .inr ⟨by omega, by omega⟩, fun hp => by have := h.bd _ hp; omega, by omega⟩)
  have HD := Lib.hid (show VarR (fun k => F k ∨ (w.heap.size ≤ k ∧ k < w1.heap.size)) P w w1 (w.heap.size + 1) #[.bool n.leaf, ve, vk, vi] 26 from ⟨by rw [hw1]; exact ((show Blk ((w.alloc _).alloc (.cells #[.bool n.leaf, ve, vk, vi] 26)) (w.heap.size + 1) #[.bool n.leaf, ve, vk, vi] 26 from heap_at (by simp)).alloc _).alloc _, .inr ⟨by omega, by omega⟩, fun hp => by have := h.bd _ hp; omega, by omega⟩)
  have HR := Lib.hid (show VarR (fun k => F k ∨ (w.heap.size ≤ k ∧ k < w1.heap.size)) P w w1 (w.heap.size + 1 + 1) outZc 135 from ⟨by rw [hw1]; exact (show Blk (((w.alloc _).alloc _).alloc (.cells outZc 135)) (w.heap.size + 1 + 1) outZc 135 from heap_at (by simp)).alloc _, .inr ⟨by omega, by omega⟩, fun hp => by have := h.bd _ hp; omega, by omega⟩)
  have HO := Lib.hid (show VarR (fun k => F k ∨ (w.heap.size ≤ k ∧ k < w1.heap.size)) P w w1 (w.heap.size + 1 + 1 + 1) outZc 135 from ⟨by rw [hw1]; exact heap_at (by simp), .inr ⟨by omega, by omega⟩, fun hp => by have := h.bd _ hp; omega, by omega⟩)
  have HG := Lib.hid (h.plusNew hP (Q := fun k => w.heap.size ≤ k ∧ k < w1.heap.size) m0 (fun k hk => hk.1))
  have HVE := Lib.hid (hN.sl hP hve)
  have HVK := Lib.hid (hN.sl hP hvk)
  have HVI := Lib.hid (hN.sl hP hvi)
  have HLIM := Lib.hid h.lim
  have HN := Lib.hid hN
  have HOK := Lib.hid hok
  have HSZ := Lib.hid (fun W (m : Ext w1 W) => inSize_any (HG.out.at m) gen)
  have HFT : Hid (∀ W, Ext w1 W → Calls Tryz.prog 19 #[.agg #[.bool n.leaf, ve, vk, vi], .int .i64 (G.size : Int)] W fun e w' => e = .returned (.bool (decide (weightN n ≤ (G.size : Int) - 24))) ∧ Ext W w') := Lib.hid (fun W m => fits_any n ve vk vi W (HVE.out.ext m) (HVK.out.ext m) (by have := hok.wt; omega) _ (by omega) (by have := HLIM.out; omega))
  obtain ⟨ea, ec, rfl, _, _, _, _⟩ := hve
  obtain ⟨ka, kc, rfl, _, _, _, _⟩ := hvk
  obtain ⟨ia, ic, rfl, _, _, _, _⟩ := hvi
  have b0 := HB.out.blk.cell (o := 0) rfl
  have b1 := HB.out.blk.cell (o := 1) rfl
  have b2 := HB.out.blk.cell (o := 2) rfl
  have n0 := HD.out.blk.cell (o := 0) rfl
  have n1 := HD.out.blk.cell (o := 1) rfl
  have n2 := HD.out.blk.cell (o := 2) rfl
  have n3 := HD.out.blk.cell (o := 3) rfl
  have HW1 := Lib.hid hw1
  clear hL hP h m0 hN hok hw1
  unfold pgV at HSZ ⊢
  go_enter Tryz.func141, Tryz.ntmps141
  go_wp2_with fail
  rw [← HW1.out]
  go_cut [17] (fun v17 wx => v17 = .bool (decide (weightN n ≤ (G.size : Int) - 24)) ∧ Hid (Ext w1 wx))
  case first =>
    go_region_held3 (fun w' => w'.cell? ⟨w.heap.size + 1, 0, none⟩ = some (.bool n.leaf) ∧ w'.cell? ⟨w.heap.size + 1, 1, none⟩ = some (.slice ea n.entries.length ec) ∧ w'.cell? ⟨w.heap.size + 1, 2, none⟩ = some (.slice ka n.keys.length kc) ∧ w'.cell? ⟨w.heap.size + 1, 3, none⟩ = some (.slice ia n.kids.length ic) ∧
        w'.cell? ⟨w.heap.size, 0, none⟩ = some (.pointer (some ⟨c, 0, none⟩)) ∧ w'.cell? ⟨w.heap.size, 1, none⟩ = some (.pointer (some ⟨s, 0, none⟩)) ∧ w'.cell? ⟨w.heap.size, 2, none⟩ = some (.int .u64 (gen : Int)))
      (first | (with_reducible exact ⟨n0, n1, n2, n3, b0, b1, b2⟩) | (with_reducible exact ⟨y0, y1, y2, y3, d0, d1, d2⟩) | (with_reducible exact ⟨z0, z1, z2, z3, f0, f1, f2⟩) | go_keep)
      (first
        | (go_at_call 143; (with_reducible refine (HSZ.out _ (Mods.refl _ w1).drew).mono ?_); rintro e w2 ⟨rfl, hm2⟩; have y0 := cellE hm2 n0; have y1 := cellE hm2 n1; have y2 := cellE hm2 n2; have y3 := cellE hm2 n3; have d0 := cellE hm2 b0; have d1 := cellE hm2 b1; have d2 := cellE hm2 b2)
        | (go_at_call 19; refine (HFT.out _ ((Mods.refl _ w1).drew.trans hm2)).mono ?_; rintro e w3 ⟨rfl, hm3⟩; have z0 := cellE hm3 y0; have z1 := cellE hm3 y1; have z2 := cellE hm3 y2; have z3 := cellE hm3 y3; have f0 := cellE hm3 d0; have f1 := cellE hm3 d1; have f2 := cellE hm3 d2)
        | fail)
    all_goals
      go_wp2_with fail
      go_meet
      exact ⟨rfl, Lib.hid ((Mods.refl _ w1).drew.trans (hm2.trans hm3))⟩
  obtain ⟨rfl, HX⟩ := hcut
  have HB := Lib.hid (HB.out.ext HX.out)
  have HD := Lib.hid (HD.out.ext HX.out)
  have HR := Lib.hid (HR.out.ext HX.out)
  have HO := Lib.hid (HO.out.ext HX.out)
  have HN1 := Lib.hid (HN.out.trans (Nxt.ext HN.out.env HN.out.sub HX.out))
  have HG := Lib.hid (HG.out.at HX.out)
  have b0 := HB.out.blk.cell (o := 0) rfl
  have b1 := HB.out.blk.cell (o := 1) rfl
  have b2 := HB.out.blk.cell (o := 2) rfl
  have n0 := HD.out.blk.cell (o := 0) rfl
  have n1 := HD.out.blk.cell (o := 1) rfl
  have n2 := HD.out.blk.cell (o := 2) rfl
  have n3 := HD.out.blk.cell (o := 3) rfl
  cases hfit : decide (weightN n ≤ (G.size : Int) - 24) with
  | true =>
    have HFT := Lib.hid (of_decide_eq_true hfit)
    have HDW := Lib.hid (down_any HN1.out.env HN1.out.sub HG.out gen old hgen n _ _ _ (HVE.out.ext HX.out) (HVK.out.ext HX.out) (HVI.out.ext HX.out) HOK.out.bytes HOK.out.place.ok HOK.out.place.two (HOK.out.place.lt (by have := HLIM.out; omega)) HOK.out.len (by have := HOK.out.cost; omega))
    unfold pgV at HDW
    clear hfit
    go_wp2_with fail
    refine HDW.out.mono ?_
    rintro e w2 ⟨P2, F2, hG2, hN2, hr⟩
    have HR2 := Lib.hid (HR.out.nxt hN2)
    have hO2 := HO.out.nxt hN2
    have HG2 := Lib.hid hG2
    have HN2 := Lib.hid (HN1.out.trans hN2)
    have o0 := hO2.blk.cell (o := 0) rfl
    have o1 := hO2.blk.cell (o := 1) rfl
    have o2 := hO2.blk.cell (o := 2) rfl
    have o3 := hO2.blk.cell (o := 3) rfl
    have o4 := hO2.blk.cell (o := 4) rfl
    have of := hO2.blk.frozen
    have HO2 := Lib.hid hO2
    have r0 := HR2.out.blk.cell (o := 0) rfl
    have r1 := HR2.out.blk.cell (o := 1) rfl
    have r2 := HR2.out.blk.cell (o := 2) rfl
    have r3 := HR2.out.blk.cell (o := 3) rfl
    have r4 := HR2.out.blk.cell (o := 4) rfl
    have rf := HR2.out.blk.frozen
    clear hG2 hN2 hO2
    rcases hr with ⟨i, hi, rfl⟩ | ⟨hi, f, el, rfl, hE⟩
    · have HSA : Hid (settleA G l gen old n = .inl (downG G l gen old n, downL G l old n, ⟨i, 0, e0, false, false⟩)) := Lib.hid (by unfold settleA; rw [if_pos HFT.out, hi])
      clear hi
      go_wp2_with fail
      have mO := Mods.at (fun k => k = w.heap.size + 1 + 1 + 1) w2 (w.heap.size + 1 + 1 + 1) 0 (.int .i64 (i : Int)) rfl
      have g3 := HG2.out.var HO2.out mO
      have n3 := HN2.out.var HO2.out mO
      have r3 := HR2.out.other mO (by omega)
      have mR := Mods.set5 (F := fun k => k = w.heap.size + 1 + 1) (Mods.refl _ (w2.setCell ⟨w.heap.size + 1 + 1 + 1, 0, none⟩ (.int .i64 (i : Int)))) (R := w.heap.size + 1 + 1) (.inr rfl) (.int .i64 (i : Int)) (.int .i64 0) (.string ⟨#[]⟩) (.bool false) (.bool false)
      have bR := r3.blk.set5 (.int .i64 (i : Int)) (.int .i64 0) (.string ⟨#[]⟩) (.bool false) (.bool false)
      refine bodyPost_ret (results_row_tmp rfl _ _ (w.heap.size + 1 + 1) 135 _ _ rfl bR Tryz.underlying135 rfl Tryz.outSz) rfl ?_
      exact ⟨P2, F2, _, _, g3.var r3 mR, n3.var r3 mR, .inl ⟨_, HSA.out, rfl⟩⟩
    · have HSA : Hid (settleA G l gen old n = .inr (downK G n)) := Lib.hid (by unfold settleA; rw [if_pos HFT.out, hi])
      have HFR : Hid (FrG G l (downG G l gen old n) (downL G l old n)) := Lib.hid (fr_down HOK.out.place (by rw [HOK.out.low.1]; simp))
      have HE := Lib.hid hE
      clear hi hE
      go_wp2_with fail
      have mO := Mods.at (fun k => k = w.heap.size + 1 + 1 + 1) w2 (w.heap.size + 1 + 1 + 1) 0 (.int .i64 0) rfl
      have g3 := HG2.out.var HO2.out mO
      have n3 := HN2.out.var HO2.out mO
      have r3 := HR2.out.other mO (by omega)
      have mR := Mods.set5 (F := fun k => k = w.heap.size + 1 + 1) (Mods.refl _ (w2.setCell ⟨w.heap.size + 1 + 1 + 1, 0, none⟩ (.int .i64 0))) (R := w.heap.size + 1 + 1) (.inr rfl) (.int .i64 0) (.int .i64 0) (.string ⟨#[]⟩) (.bool false) (.bool false)
      have bR := r3.blk.set5 (.int .i64 0) (.int .i64 0) (.string ⟨#[]⟩) (.bool false) (.bool false)
      refine bodyPost_ret (results_row_tmp rfl _ _ (w.heap.size + 1 + 1) 135 _ _ rfl bR Tryz.underlying135 rfl Tryz.outSz) rfl ?_
      exact ⟨P2, F2, _, _, g3.var r3 mR, n3.var r3 mR, .inr ⟨_, out0, _, _, HSA.out, HFR.out, rfl, (HE.out.mods (HO2.out.mF mO)).mods (r3.mF mR)⟩⟩
  | false => exact absurd HFF.out (of_decide_eq_false hfit)
end
end Go.Proofs.YtpjpldedebddgaaGreatDoor
namespace Go.Proofs.YtpjpldedebddgaaGreatDoor
open Go.RowKit
attribute [local go_sem ↓] Go.wp_at_zero Go.wp_at_succ
theorem Tryz.entSz : (Tryz.prog.info? 114).map (·.size) = some 4 := by kernel_rfl
section
variable {P P' F F' : Nat → Prop} {ad : Nat → Addr} {w w' : World} {c s : Nat} {G : GA} {l : List Nat}
set_option maxRecDepth 100000 in
theorem entryS_any (gen : Nat) (key v : ByteArray) (hv : v.size ≤ 24) :
    Calls Tryz.prog 140 #[pgV c s gen, .string key, .string v] w fun e w' => e = .returned (.tuple #[.agg #[.string key, .string v, .int .i64 0, .int .i64 0], .nilIface]) ∧ Ext w w' := by
  have hv2 : (v.size : Int) ≤ 24 := by omega
  have HB : Hid (Blk ((w.alloc (.cells #[.pointer (some ⟨c, 0, none⟩), .pointer (some ⟨s, 0, none⟩), .int .u64 (gen : Int)] 48)).alloc (.cells #[.string key, .string v, .int .i64 0, .int .i64 0] 114)) (w.heap.size + 1) #[.string key, .string v, .int .i64 0, .int .i64 0] 114) := Lib.hid (heap_at (by simp))
  have HM : Hid (Ext w ((w.alloc (.cells #[.pointer (some ⟨c, 0, none⟩), .pointer (some ⟨s, 0, none⟩), .int .u64 (gen : Int)] 48)).alloc (.cells #[.string key, .string v, .int .i64 0, .int .i64 0] 114))) := Lib.hid (((Mods.refl _ w).alloc _).alloc _)
  clear hv
  unfold pgV
  go_enter Tryz.func140, Tryz.ntmps140
  go_wp2_with fail
  refine bodyPost_ret (results_row_tmp rfl _ _ (w.heap.size + 1) 114 _ _ rfl HB.out Tryz.underlying114 rfl Tryz.entSz) rfl ?_
  exact ⟨rfl, HM.out⟩
end
end Go.Proofs.YtpjpldedebddgaaGreatDoor
namespace Go.Proofs.YtpjpldedebddgaaGreatDoor
open Go.RowKit
attribute [local go_sem ↓] Go.wp_at_zero Go.wp_at_succ
section
variable {P P' F F' : Nat → Prop} {ad : Nat → Addr} {w w' : World} {c s : Nat} {G : GA} {l : List Nat}
/-- whether the key is new is told besides. -/
def newsA (b : Bool) : StA OutA → StA OutA
  | .inr k => .inr k
  | .inl (G2, l2, o) => .inl (G2, l2, { o with news := b })
theorem withE_new {n : NodeA} {key : ByteArray} (hno : entIs key n.entries = false) (e : EntryA) : (withE n key e).entries = n.entries.take (entAt key n.entries) ++ [e] ++ n.entries.drop (entAt key n.entries + 0) := by
  unfold withE; rw [hno]; rfl
theorem entAt_le (key : ByteArray) (es : List EntryA) : entAt key es ≤ es.length := List.findIdx_le_length
set_option maxRecDepth 100000 in
set_option maxHeartbeats 4000000 in
theorem leafS_any (n : NodeA) (hlf : n.leaf = true) (key v : ByteArray) (hno : entIs key n.entries = false) (hv : v.size ≤ 24) (hF : weightN (withE n key ⟨key, v, 0, 0⟩) ≤ (G.size : Int) - 24) (hL : Env F ad w) (hP : ∀ k, P k → F k) (h : PgR F w P c s G l) (gen old : Nat) (hgen : gen < 18446744073709551616) (ve vk vi : Value) (hve : Sl F w 4 encE ve n.entries) (hvk : Sl F w 1 encS vk n.keys) (hvi : Sl F w 1 encI vi n.kids) (hfew : n.entries.length ≤ 100000) (hok : SetOk G l old (withE n key ⟨key, v, 0, 0⟩)) :
    Calls Tryz.prog 91 #[pgV c s gen, .int .i64 (old : Int), .agg #[.bool true, ve, vk, vi], .string key, .string v] w (OutP F P ad w c s G l (newsA true (settleA G l gen old (withE n key ⟨key, v, 0, 0⟩)))) := by
  obtain ⟨w1, hw1⟩ : ∃ w1, w1 = ((w.alloc (.cells #[.pointer (some ⟨c, 0, none⟩), .pointer (some ⟨s, 0, none⟩), .int .u64 (gen : Int)] 48)).alloc (.cells #[.bool true, ve, vk, vi] 26)).alloc (.cells outZc 135) := ⟨_, rfl⟩
  have m0 : Ext w w1 := by rw [hw1]; exact (((Mods.refl _ w).alloc _).alloc _).alloc _
  have hz : w1.heap.size = w.heap.size + 3 := by rw [hw1]; simp
  have hN : Nxt P P F (fun k => F k ∨ (w.heap.size ≤ k ∧ k < w1.heap.size)) ad w w1 := Nxt.new hL hP (Q := fun k => w.heap.size ≤ k ∧ k < w1.heap.size) m0 (fun k hk => hk.1) (fun k hk => hk.2)
  have HB := Lib.hid (show VarR (fun k => F k ∨ (w.heap.size ≤ k ∧ k < w1.heap.size)) P w w1 w.heap.size #[.pointer (some ⟨c, 0, none⟩), .pointer (some ⟨s, 0, none⟩), .int .u64 (gen : Int)] 48 from ⟨by rw [hw1]; exact ((Blk.new w _ _).alloc _).alloc _, .inr ⟨by omega, by omega⟩, fun hp => by have := h.bd _ hp; omega, by omega⟩)
  have HD := Lib.hid (show VarR (fun k => F k ∨ (w.heap.size ≤ k ∧ k < w1.heap.size)) P w w1 (w.heap.size + 1) #[.bool true, ve, vk, vi] 26 from ⟨by rw [hw1]; exact (show Blk ((w.alloc _).alloc (.cells #[.bool true, ve, vk, vi] 26)) (w.heap.size + 1) #[.bool true, ve, vk, vi] 26 from heap_at (by simp)).alloc _, .inr ⟨by omega, by omega⟩, fun hp => by have := h.bd _ hp; omega, by omega⟩)
  have HR := Lib.hid (show VarR (fun k => F k ∨ (w.heap.size ≤ k ∧ k < w1.heap.size)) P w w1 (w.heap.size + 1 + 1) outZc 135 from ⟨by rw [hw1]; exact heap_at (by simp), .inr ⟨by omega, by omega⟩, fun hp => by have := h.bd _ hp; omega, by omega⟩)
  have HG := Lib.hid (h.plusNew hP (Q := fun k => w.heap.size ≤ k ∧ k < w1.heap.size) m0 (fun k hk => hk.1))
  have HVE := Lib.hid (hN.sl hP hve)
  have HVK := Lib.hid (hN.sl hP hvk)
  have HVI := Lib.hid (hN.sl hP hvi)
  have HN := Lib.hid hN
  have HOK := Lib.hid hok
  have HFIT := Lib.hid hF
  have HFN := Lib.hid (findN_leaf hlf key)
  have HNO := Lib.hid hno
  have HLF := Lib.hid hlf
  obtain ⟨ea, ec, rfl, _, _, _, _⟩ := hve
  obtain ⟨ka, kc, rfl, _, _, _, _⟩ := hvk
  obtain ⟨ia, ic, rfl, _, _, _, _⟩ := hvi
  obtain ⟨at_, hat⟩ : ∃ at_, at_ = entAt key n.entries := ⟨_, rfl⟩
  have hal : at_ ≤ n.entries.length := by rw [hat]; exact entAt_le _ _
  have HAT := Lib.hid hat
  have b0 := HB.out.blk.cell (o := 0) rfl
  have b1 := HB.out.blk.cell (o := 1) rfl
  have b2 := HB.out.blk.cell (o := 2) rfl
  have n0 := HD.out.blk.cell (o := 0) rfl
  have n1 := HD.out.blk.cell (o := 1) rfl
  have n2 := HD.out.blk.cell (o := 2) rfl
  have n3 := HD.out.blk.cell (o := 3) rfl
  have HW1 := Lib.hid hw1
  have HFD := findNode_any n key _ _ (.slice ia n.kids.length ic) HVE.out HVK.out
  rw [hlf, findN_leaf hlf key, hno, ← hat] at HFD
  have HFD := Lib.hid HFD
  have HEN := Lib.hid (fun W => entryS_any (c := c) (s := s) (w := W) gen key v hv)
  clear hL hP h m0 hN hok hw1 hF hlf hno hv hat
  unfold pgV at HEN ⊢
  go_enter Tryz.func91, Tryz.ntmps91
  go_wp2_with fail
  rw [← HW1.out]
  refine HFD.out.mono ?_
  rintro e w2 ⟨rfl, hm2⟩
  have HX2 := Lib.hid hm2
  have b0 := cellE hm2 b0
  have b1 := cellE hm2 b1
  have b2 := cellE hm2 b2
  clear hm2
  go_wp2_with fail
  refine (HEN.out _).mono ?_
  rintro e w3 ⟨rfl, hm3⟩
  obtain ⟨w4, hw4⟩ : ∃ w4, w4 = (w3.alloc (.cells #[.string key, .string v, .int .i64 0, .int .i64 0] 114)).alloc (.cells #[.string key, .string v, .int .i64 0, .int .i64 0] 114) := ⟨_, rfl⟩
  have hm4 : Ext w1 w4 := by rw [hw4]; exact ((HX2.out.trans hm3).alloc _).alloc _
  have HX4 := Lib.hid hm4
  have n1 := (HD.out.ext (HX2.out.trans hm3)).blk.cell (o := 1) rfl
  have n1c := cell_alloc n1 (.cells #[.string key, .string v, .int .i64 0, .int .i64 0] 114)
  have HSL1 : Hid (Sl (fun k => F k ∨ (w.heap.size ≤ k ∧ k < w1.heap.size)) w4 4 encE (.slice (some ⟨w3.heap.size + 1, 0, none⟩) 1 1) [(⟨key, v, 0, 0⟩ : EntryA)]) := Lib.hid (Sl.one (by rw [hw4]; exact heap_at (by simp)) (fun f => by
    rcases f with f | f
    · have := HN.out.env.lt _ (.inl f); have := (HX2.out.trans hm3).size; omega
    · have := (HX2.out.trans hm3).size; omega))
  have n1b : w4.cell? ⟨w.heap.size + 1, 1, none⟩ = some (.slice ea n.entries.length ec) := (HD.out.ext hm4).blk.cell (o := 1) rfl
  have HW4 := Lib.hid hw4
  clear hm3 hm4 hw4
  go_wp2_with fail
  rw [← HW4.out]
  refine (laidE_any _ _ n.entries [(⟨key, v, 0, 0⟩ : EntryA)] (HVE.out.ext HX4.out) HSL1.out at_ 0 (by omega) (by omega) (by simp)).mono ?_
  rintro e w5 ⟨ev, rfl, hO5, hm5⟩
  obtain ⟨oa, oc, rfl, _, _⟩ := hO5.form
  have HL5 : Hid ((n.entries.take at_ ++ [(⟨key, v, 0, 0⟩ : EntryA)] ++ n.entries.drop (at_ + 0)) = (withE n key ⟨key, v, 0, 0⟩).entries) := Lib.hid (by rw [withE_new HNO.out, HAT.out])
  rw [HL5.out] at hO5 ⊢
  have HX5 := Lib.hid (HX4.out.trans hm5)
  have hD5 := HD.out.ext HX5.out
  have HO5 := Lib.hid (hO5.rebase (base' := w1.heap.size) HX4.out.size)
  have d0 := hD5.blk.cell (o := 0) (v := .bool true) rfl
  have d1 := hD5.blk.cell (o := 1) (v := .slice ea n.entries.length ec) rfl
  have d2 := hD5.blk.cell (o := 2) (v := .slice ka n.keys.length kc) rfl
  have d3 := hD5.blk.cell (o := 3) (v := .slice ia n.kids.length ic) rfl
  have df := hD5.blk.frozen
  have b0 := (HB.out.ext HX5.out).blk.cell (o := 0) rfl
  have b1 := (HB.out.ext HX5.out).blk.cell (o := 1) rfl
  have b2 := (HB.out.ext HX5.out).blk.cell (o := 2) rfl
  obtain ⟨n', hn'⟩ : ∃ n', n' = withE n key ⟨key, v, 0, 0⟩ := ⟨_, rfl⟩
  have HN' : Hid (n'.leaf = true ∧ n'.keys = n.keys ∧ n'.kids = n.kids) := Lib.hid (by rw [hn']; exact ⟨HLF.out, rfl, rfl⟩)
  rw [← hn'] at HO5 HOK HFIT HL5 ⊢
  have mD : Mods (fun k => k = w.heap.size + 1) w5 (w5.setCell ⟨w.heap.size + 1, 1, none⟩ (.slice oa n'.entries.length oc)) := Mods.at _ w5 _ 1 _ rfl
  have HGD := Lib.hid ((HG.out.at HX5.out).var hD5 mD)
  have HND := Lib.hid ((HN.out.trans (Nxt.ext HN.out.env HN.out.sub HX5.out)).var hD5 mD)
  have HRD := Lib.hid ((HR.out.ext HX5.out).other mD (by omega))
  have hmF := hD5.mF mD
  have HSE : Hid (Sl (fun k => F k ∨ (w.heap.size ≤ k ∧ k < w1.heap.size)) (w5.setCell ⟨w.heap.size + 1, 1, none⟩ (.slice oa n'.entries.length oc)) 4 encE (.slice oa n'.entries.length oc) n'.entries) := Lib.hid ((HO5.out.slF (fun k hk => by
    rcases hk with hk | hk
    · exact HN.out.env.lt k (.inl hk)
    · exact hk.2) encE_ok.len (by have := HOK.out.few.1; omega)).mods hmF)
  have HSK := Lib.hid (((HVK.out.ext HX5.out).mods hmF))
  have HSI := Lib.hid (((HVI.out.ext HX5.out).mods hmF))
  have HST := settleF_any n' HFIT.out HND.out.env HND.out.sub HGD.out gen old hgen _ _ _ HSE.out (by rw [HN'.out.2.1]; exact HSK.out) (by rw [HN'.out.2.2]; exact HSI.out) HOK.out
  rw [HN'.out.1] at HST
  unfold pgV at HST
  have HST := Lib.hid HST
  have HNN := Lib.hid hn'
  clear hO5 hm5 hD5 mD hmF hn'
  go_wp2_with fail
  refine HST.out.mono ?_
  rintro e w6 ⟨P6, F6, G6, l6, hG6, hN6, hr⟩
  have HR6 := Lib.hid (HRD.out.nxt hN6)
  have HG6 := Lib.hid hG6
  have HN6 := Lib.hid (HND.out.trans hN6)
  have hlt6 : w.heap.size + 1 + 1 < w6.heap.size := HR6.out.blk.lt
  have hne6 : w6.heap.size ≠ w.heap.size + 1 + 1 := by omega
  clear hG6 hN6
  rcases hr with ⟨o, hs, rfl⟩ | ⟨k, o, f, el, hs, hfr, rfl, hE⟩
  · have HS := Lib.hid hs
    clear hs
    unfold outC
    have q0 := HR6.out.blk.cell (o := 0) rfl
    have q1 := HR6.out.blk.cell (o := 1) rfl
    have q2 := HR6.out.blk.cell (o := 2) rfl
    have q3 := HR6.out.blk.cell (o := 3) rfl
    have q4 := HR6.out.blk.cell (o := 4) rfl
    have qf := HR6.out.blk.frozen
    go_wp2_with fail
    have mR := Mods.set5 (F := fun k => k = w.heap.size + 1 + 1) (Mods.refl _ w6) (R := w.heap.size + 1 + 1) (.inr rfl) (.int .i64 (o.id0 : Int)) (.int .i64 (o.id1 : Int)) (.string o.key) (.bool o.two) (.bool true)
    have bR := HR6.out.blk.set5 (.int .i64 (o.id0 : Int)) (.int .i64 (o.id1 : Int)) (.string o.key) (.bool o.two) (.bool true)
    have gR := HG6.out.var HR6.out mR
    have nR := HN6.out.var HR6.out mR
    have mA := (Mods.refl (fun _ => False) (((((w6.setCell ⟨w.heap.size + 1 + 1, 0, none⟩ (.int .i64 (o.id0 : Int))).setCell ⟨w.heap.size + 1 + 1, 1, none⟩ (.int .i64 (o.id1 : Int))).setCell ⟨w.heap.size + 1 + 1, 2, none⟩ (.string o.key)).setCell ⟨w.heap.size + 1 + 1, 3, none⟩ (.bool o.two)).setCell ⟨w.heap.size + 1 + 1, 4, none⟩ (.bool true))).alloc (.cells #[.int .i64 (o.id0 : Int), .int .i64 (o.id1 : Int), .string o.key, .bool o.two, .bool true] 135)
    refine bodyPost_ret (results_row_tmp rfl _ _ (w.heap.size + 1 + 1) 135 _ _ rfl (bR.ext mA) Tryz.underlying135 rfl Tryz.outSz) rfl ?_
    exact ⟨P6, F6, G6, l6, gR.at mA, nR.trans (Nxt.ext nR.env nR.sub mA), .inl ⟨{ o with news := true }, by rw [← HNN.out, HS.out]; rfl, rfl⟩⟩
  · have HS := Lib.hid hs
    have HE := Lib.hid hE
    clear hs hE
    unfold outC
    have q0 := HR6.out.blk.cell (o := 0) rfl
    have q1 := HR6.out.blk.cell (o := 1) rfl
    have q2 := HR6.out.blk.cell (o := 2) rfl
    have q3 := HR6.out.blk.cell (o := 3) rfl
    have q4 := HR6.out.blk.cell (o := 4) rfl
    have qf := HR6.out.blk.frozen
    go_wp2_with fail
    have mR := Mods.set5 (F := fun k => k = w.heap.size + 1 + 1) (Mods.refl _ w6) (R := w.heap.size + 1 + 1) (.inr rfl) (.int .i64 (o.id0 : Int)) (.int .i64 (o.id1 : Int)) (.string o.key) (.bool o.two) (.bool true)
    have bR := HR6.out.blk.set5 (.int .i64 (o.id0 : Int)) (.int .i64 (o.id1 : Int)) (.string o.key) (.bool o.two) (.bool true)
    have gR := HG6.out.var HR6.out mR
    have nR := HN6.out.var HR6.out mR
    have mA := (Mods.refl (fun _ => False) (((((w6.setCell ⟨w.heap.size + 1 + 1, 0, none⟩ (.int .i64 (o.id0 : Int))).setCell ⟨w.heap.size + 1 + 1, 1, none⟩ (.int .i64 (o.id1 : Int))).setCell ⟨w.heap.size + 1 + 1, 2, none⟩ (.string o.key)).setCell ⟨w.heap.size + 1 + 1, 3, none⟩ (.bool o.two)).setCell ⟨w.heap.size + 1 + 1, 4, none⟩ (.bool true))).alloc (.cells #[.int .i64 (o.id0 : Int), .int .i64 (o.id1 : Int), .string o.key, .bool o.two, .bool true] 135)
    refine bodyPost_ret (results_row_tmp rfl _ _ (w.heap.size + 1 + 1) 135 _ _ rfl (bR.ext mA) Tryz.underlying135 rfl Tryz.outSz) rfl ?_
    exact ⟨P6, F6, G6, l6, gR.at mA, nR.trans (Nxt.ext nR.env nR.sub mA), .inr ⟨k, { o with news := true }, f, el, by rw [← HNN.out, HS.out]; rfl, hfr, rfl, (HE.out.mods (HR6.out.mF mR)).mods mA.ext⟩⟩
end
end Go.Proofs.YtpjpldedebddgaaGreatDoor
namespace Go.Proofs.YtpjpldedebddgaaGreatDoor
open Go.RowKit
attribute [local go_sem ↓] Go.wp_at_zero Go.wp_at_succ
def checkK (key v : ByteArray) : Option Err := if keyB key = false then some ([-1], 2) else if 4096 < v.size then some ([-1], 8) else none
section
variable {P P' F F' : Nat → Prop} {ad : Nat → Addr} {w w' : World} {c s : Nat} {G : GA} {l : List Nat}
set_option maxRecDepth 100000 in
theorem inCheck_any (hL : Env F ad w) (gen : Nat) (key v : ByteArray) (hfu : Full ad ∨ v.size ≤ 4096) :
    Calls Tryz.prog 90 #[pgV c s gen, .string key, .string v] w fun e w' => ∃ ev, e = .returned ev ∧ ErrR F ad w' ev (checkK key v) ∧ Ext w w' := by
  unfold pgV
  have m0 : Ext w (w.alloc (.cells #[.pointer (some ⟨c, 0, none⟩), .pointer (some ⟨s, 0, none⟩), .int .u64 (gen : Int)] 48)) := (Mods.refl _ w).alloc _
  have hL0 := hL.mods m0.ext
  have g2 := hL0.c2
  have HL := Lib.hid hL0
  have M0 := Lib.hid m0
  have HFU := Lib.hid hfu
  clear hL hL0 m0 hfu
  cases hk : keyB key with
  | false =>
    have HR : Hid (checkK key v = some ([-1], 2)) := Lib.hid (by unfold checkK; rw [if_pos hk])
    have HK := Lib.hid (key_any key)
    rw [hk] at HK
    clear hk
    go_enter Tryz.func90, Tryz.ntmps90
    go_wp2_with fail
    refine (HK.out _).mono ?_
    rintro e w1 ⟨rfl, rfl⟩
    go_wp2_with fail
    refine (new_any HL.out _ _ [] 2 (.sent 2 (by decide) (by decide))).mono ?_
    rintro e w1 ⟨f, rfl, hE, hm⟩
    have HE := Lib.hid hE
    have HM := Lib.hid hm
    clear hE hm
    go_wp2_with fail
    go_ret
    exact ⟨_, rfl, by rw [HR.out]; exact ⟨f, rfl, HE.out⟩, M0.out.trans HM.out⟩
  | true =>
    have HK := Lib.hid (key_any key)
    rw [hk] at HK
    by_cases hv : 4096 < v.size
    · have HR : Hid (checkK key v = some ([-1], 8)) := Lib.hid (by unfold checkK; rw [if_neg (by rw [hk]; simp), if_pos hv])
      have hv2 : (4096 : Int) < (v.size : Int) := by omega
      have g8 := HL.out.c8 (HFU.out.resolve_right (by omega))
      clear hk hv
      go_enter Tryz.func90, Tryz.ntmps90
      go_wp2_with fail
      refine (HK.out _).mono ?_
      rintro e w1 ⟨rfl, rfl⟩
      go_wp2_with fail
      refine (new_any HL.out _ _ [] 8 (.sent 8 (by decide) (by decide))).mono ?_
      rintro e w1 ⟨f, rfl, hE, hm⟩
      have HE := Lib.hid hE
      have HM := Lib.hid hm
      clear hE hm
      go_wp2_with fail
      go_ret
      exact ⟨_, rfl, by rw [HR.out]; exact ⟨f, rfl, HE.out⟩, M0.out.trans HM.out⟩
    · have HR : Hid (checkK key v = none) := Lib.hid (by unfold checkK; rw [if_neg (by rw [hk]; simp), if_neg hv])
      have hv2 : ¬ (4096 : Int) < (v.size : Int) := by omega
      clear hk hv
      go_enter Tryz.func90, Tryz.ntmps90
      go_wp2_with fail
      refine (HK.out _).mono ?_
      rintro e w1 ⟨rfl, rfl⟩
      go_wp2_with fail
      go_ret
      exact ⟨_, rfl, by rw [HR.out]; rfl, M0.out⟩
/-- a pager without a cache. -/
theorem inCheck_nil (hL : Env F ad w) (sp : Option Addr) (gen : Nat) (key v : ByteArray) :
    Calls Tryz.prog 90 #[.agg #[.pointer none, .pointer sp, .int .u64 (gen : Int)], .string key, .string v] w fun e w' => ∃ f, e = .returned (faultV f) ∧ ErrC F ad w' (faultV f) [-1] 7 ∧ Ext w w' := by
  have m0 : Ext w (w.alloc (.cells #[.pointer none, .pointer sp, .int .u64 (gen : Int)] 48)) := (Mods.refl _ w).alloc _
  have hL0 := hL.mods m0.ext
  have g7 := hL0.c7
  have HL := Lib.hid hL0
  have M0 := Lib.hid m0
  clear hL hL0 m0
  go_enter Tryz.func90, Tryz.ntmps90
  go_wp2_with fail
  refine (new_any HL.out _ _ [] 7 (.sent 7 (by decide) (by decide))).mono ?_
  rintro e w1 ⟨f, rfl, hE, hm⟩
  have HE := Lib.hid hE
  have HM := Lib.hid hm
  clear hE hm
  go_wp2_with fail
  go_ret
  exact ⟨f, rfl, HE.out, M0.out.trans HM.out⟩
/-- insert.Put's answer for a pair that is not put. -/
def PutNo (F _P : Nat → Prop) (ad : Nat → Addr) (w : World) (k : Nat) (e : Ending) (w' : World) : Prop :=
  ∃ f el, e = .returned (.tuple #[.int .i64 0, .bool false, faultV f]) ∧ ErrC F ad w' (faultV f) el k ∧ Ext w w'
set_option maxRecDepth 100000 in
theorem putNil_any (hL : Env F ad w) (sp : Option Addr) (gen : Nat) (root : Int) (key v : ByteArray) :
    Calls Tryz.prog 32 #[.agg #[.pointer none, .pointer sp, .int .u64 (gen : Int)], .int .i64 root, .string key, .string v] w (PutNo F P ad w 7) := by
  have m0 : Ext w (w.alloc (.cells #[.pointer none, .pointer sp, .int .u64 (gen : Int)] 48)) := (Mods.refl _ w).alloc _
  have HL := Lib.hid (hL.mods m0.ext)
  have M0 := Lib.hid m0
  clear hL m0
  go_enter Tryz.func32, Tryz.ntmps32
  go_wp2_with fail
  refine (inCheck_nil HL.out sp gen key v).mono ?_
  rintro e w1 ⟨f, rfl, hE, hm⟩
  have HE := Lib.hid hE
  have HM := Lib.hid hm
  clear hE hm
  go_wp2_with fail
  refine bodyPost_ret (v := .tuple #[.int .i64 0, .bool false, faultV f]) (by simp [results, Tryz.results32, go_sem]) rfl ?_
  exact ⟨f, _, rfl, HE.out, M0.out.trans HM.out⟩
set_option maxRecDepth 100000 in
theorem putNo_any (hL : Env F ad w) (gen : Nat) (root : Int) (key v : ByteArray) (hfu : Full ad ∨ v.size ≤ 4096) (el : List Int) (k : Nat) (hk : checkK key v = some (el, k)) :
    Calls Tryz.prog 32 #[pgV c s gen, .int .i64 root, .string key, .string v] w (PutNo F P ad w k) := by
  have m0 : Ext w (w.alloc (.cells #[.pointer (some ⟨c, 0, none⟩), .pointer (some ⟨s, 0, none⟩), .int .u64 (gen : Int)] 48)) := (Mods.refl _ w).alloc _
  have HC := inCheck_any (c := c) (s := s) (hL.mods m0.ext) gen key v hfu
  rw [hk] at HC
  unfold pgV at HC ⊢
  have HC := Lib.hid HC
  have M0 := Lib.hid m0
  clear hL m0 hk hfu
  go_enter Tryz.func32, Tryz.ntmps32
  go_wp2_with fail
  refine HC.out.mono ?_
  rintro e w1 ⟨ev, rfl, ⟨f, rfl, hE⟩, hm⟩
  have HE := Lib.hid hE
  have HM := Lib.hid hm
  clear hE hm
  go_wp2_with fail
  refine bodyPost_ret (v := .tuple #[.int .i64 0, .bool false, faultV f]) (by simp [results, Tryz.results32, go_sem]) rfl ?_
  exact ⟨f, _, rfl, HE.out, M0.out.trans HM.out⟩
end
end Go.Proofs.YtpjpldedebddgaaGreatDoor
