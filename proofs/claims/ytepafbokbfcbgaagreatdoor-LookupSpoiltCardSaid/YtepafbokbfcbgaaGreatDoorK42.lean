/- What a walk that tells no error has seen; why a walk fails. Plain. | A tree of which one page is spoilt is not walked. Plain. -/
import Derived.Test.YtepafbokbfcbgaaGreatDoorK27
namespace Go.Proofs.YtepafbokbfcbgaaGreatDoor
open Go.RowKit
/-- an entry's pages, as they are read. -/
def chW (G : GA) (e : EntryA) : List Int := if e.chain = 0 then [] else (walkA G e.size.toNat e.chain e.size).1.map (·.1)
def ChOk (G : GA) (gen : Nat) (e : EntryA) : Prop := e.chain ≠ 0 → chErr G e.chain e.size = none ∧ ∀ i ∈ chW G e, ∃ p, youngW G gen i = .inl p
def KeysUp (l : List ByteArray) : Prop := l.Pairwise fun a b => ltS a b = true
/-- a subtree that was walked: its pages, its keys. -/
inductive OkW (G : GA) (gen : Nat) : Int → List Int → List ByteArray → Prop
  | leaf {id p n} : youngW G gen id = .inl p → decodeA p = .inl n → n.leaf = true → (∀ e ∈ n.entries, ChOk G gen e) → OkW G gen id (id :: n.entries.flatMap (chW G)) (n.entries.map (·.key))
  | inner {id p n} {ps : List (List Int)} {ks : List (List ByteArray)} : youngW G gen id = .inl p → decodeA p = .inl n → n.leaf = false → ps.length = n.kids.length → ks.length = n.kids.length → (∀ (i : Nat) (k : Int) (q : List Int) (r : List ByteArray), n.kids[i]? = some k → ps[i]? = some q → ks[i]? = some r → OkW G gen k q r) → OkW G gen id (id :: ps.flatten) ks.flatten
section
variable {G : GA} {gen : Nat}
theorem up_snoc {l : List ByteArray} {k : ByteArray} (h : KeysUp l) (hl : ltS (l.getLastD e0) k = true) : KeysUp (l ++ [k]) := by
  unfold KeysUp
  rw [List.pairwise_append]
  refine ⟨h, List.pairwise_singleton _ _, fun a ha b hb => ?_⟩
  simp at hb
  subst hb
  rcases List.eq_nil_or_concat l with rfl | ⟨l2, y, rfl⟩
  · simp at ha
  · simp only [List.concat_eq_append] at ha h hl
    have hy : ltS y b = true := by simpa using hl
    rcases List.mem_append.1 ha with h1 | h1
    · exact ltS_trans ((List.pairwise_append.1 h).2.2 a h1 y (by simp)) hy
    · simp at h1; subst h1; exact hy
theorem leS_flip {a b : ByteArray} (h : leS a b = false) : ltS b a = true := by
  rcases ltS_tri a b with k | k | k
  · have := (leS_iff a b).2 (.inl k); rw [h] at this; cases this
  · have := (leS_iff a b).2 (.inr k); rw [h] at this; cases this
  · exact k
theorem youngW_get {id : Int} {p : PageA} (h : youngW G gen id = .inl p) : G.get id = .inl p ∧ p.gen ≤ gen := by
  unfold youngW at h
  split at h
  · cases h
  · rename_i q hq
    split at h
    · cases h
    · injection h with h; subst h; exact ⟨hq, by omega⟩
/-- pages, and keys, went on. -/
structure Keeps (st st' : WkS) (pg : List Int) (ks : List ByteArray) : Prop where
  pages : st'.pages = st.pages ++ pg
  keys : st'.keys = st.keys ++ ks
  nd : st.pages.Nodup → st'.pages.Nodup
  up : KeysUp st.keys → KeysUp st'.keys
theorem Keeps.refl (st : WkS) : Keeps st st [] [] := ⟨by simp, by simp, fun h => h, fun h => h⟩
theorem Keeps.trans {s1 s2 s3 : WkS} {p1 p2 : List Int} {k1 k2 : List ByteArray} (a : Keeps s1 s2 p1 k1) (b : Keeps s2 s3 p2 k2) : Keeps s1 s3 (p1 ++ p2) (k1 ++ k2) :=
  ⟨by rw [b.pages, a.pages, List.append_assoc], by rw [b.keys, a.keys, List.append_assoc], fun h => b.nd (a.nd h), fun h => b.up (a.up h)⟩
theorem see_keeps {st st' : WkS} {id : Int} (h : seeW st id = .inl st') : Keeps st st' [id] [] := by
  unfold seeW at h
  split at h
  · cases h
  · rename_i hm
    injection h with h
    subst h
    refine ⟨rfl, by simp, fun hn => ?_, fun h => h⟩
    show (st.pages ++ [id]).Nodup
    rw [List.nodup_append]
    exact ⟨hn, by simp, fun a ha b hb => by simp at hb; subst hb; exact fun e => hm (e ▸ ha)⟩
theorem ids_keeps : ∀ (ids : List Int) (st st' : WkS), idsW G gen ids st = .inl st' → Keeps st st' ids [] ∧ ∀ i ∈ ids, ∃ p, youngW G gen i = .inl p
  | [], st, st', h => by
    rw [idsW] at h; injection h with h; subst h
    exact ⟨Keeps.refl _, fun i hi => by simp at hi⟩
  | id :: r, st, st', h => by
    rw [idsW] at h
    split at h
    · cases h
    · rename_i s1 h1
      split at h
      · cases h
      · rename_i p hp
        obtain ⟨k1, k2⟩ := ids_keeps r s1 st' h
        refine ⟨(see_keeps h1).trans k1, fun i hi => ?_⟩
        rcases List.mem_cons.1 hi with rfl | hi
        · exact ⟨p, hp⟩
        · exact k2 i hi
theorem chained_keeps {e : EntryA} {st st' : WkS} (h : chainedW G gen e st = .inl st') : Keeps st st' (chW G e) [] ∧ ChOk G gen e := by
  unfold chainedW at h
  unfold chW ChOk chW
  split at h
  · rename_i hc
    injection h with h; subst h
    rw [if_pos hc]
    exact ⟨Keeps.refl _, fun hn => absurd hc hn⟩
  · rename_i hc
    rw [if_neg hc]
    split at h
    · cases h
    · rename_i hz
      obtain ⟨k1, k2⟩ := ids_keeps _ _ _ h
      exact ⟨k1, fun _ => ⟨hz, k2⟩⟩
theorem ents_keeps {a : Place} : ∀ (es : List EntryA) (st st' : WkS), entsW G gen a es st = .inl st' → Keeps st st' (es.flatMap (chW G)) (es.map (·.key)) ∧ ∀ e ∈ es, ChOk G gen e
  | [], st, st', h => by
    rw [entsW] at h; injection h with h; subst h
    exact ⟨Keeps.refl _, fun i hi => by simp at hi⟩
  | e :: r, st, st', h => by
    rw [entsW] at h
    split at h
    · cases h
    · rename_i hb
      split at h
      · cases h
      · rename_i s1 h1
        obtain ⟨c1, c2⟩ := chained_keeps h1
        obtain ⟨k1, k2⟩ := ents_keeps r s1 st' h
        have hl : ltS st.last e.key = true := by
          refine leS_flip ?_
          unfold entBad at hb
          cases hq : leS e.key st.last with
          | false => rfl
          | true => rw [hq] at hb; simp at hb
        have k0 : Keeps st { st with keys := st.keys ++ [e.key] } [] [e.key] := ⟨by simp, rfl, fun h => h, fun h => up_snoc h hl⟩
        refine ⟨by simpa using (k0.trans c1).trans k1, fun x hx => ?_⟩
        rcases List.mem_cons.1 hx with rfl | hx
        · exact c2
        · exact k2 x hx
theorem atDepth_keeps (a : Place) (st : WkS) : Keeps st (atDepth a st) [] [] := by
  unfold atDepth
  split
  · exact ⟨by simp, by simp, fun h => h, fun h => h⟩
  · exact Keeps.refl _
theorem kids_keeps {rec_ : Place → WkS → WkS ⊕ Err} {n : NodeA} {a : Place} (h : ∀ (b : Place) (st st' : WkS), rec_ b st = .inl st' → ∃ pg ks, OkW G gen b.id pg ks ∧ Keeps st st' pg ks) :
    ∀ (kids : List Int) (i : Nat) (st st' : WkS), kidsW rec_ n a kids i st = .inl st' → ∃ (ps : List (List Int)) (ks : List (List ByteArray)), ps.length = kids.length ∧ ks.length = kids.length ∧ (∀ (j : Nat) (k : Int) (q : List Int) (r : List ByteArray), kids[j]? = some k → ps[j]? = some q → ks[j]? = some r → OkW G gen k q r) ∧ Keeps st st' ps.flatten ks.flatten
  | [], i, st, st', h1 => by
    rw [kidsW] at h1; injection h1 with h1; subst h1
    exact ⟨[], [], rfl, rfl, fun j k q r hk => by simp at hk, Keeps.refl _⟩
  | k :: kids, i, st, st', h1 => by
    rw [kidsW] at h1
    split at h1
    · cases h1
    · split at h1
      · cases h1
      · rename_i s1 hs
        obtain ⟨pg, kk, o1, o2⟩ := h _ _ _ hs
        obtain ⟨ps, ks, l1, l2, l3, l4⟩ := kids_keeps h kids (i + 1) s1 st' h1
        refine ⟨pg :: ps, kk :: ks, by simp [l1], by simp [l2], fun j z q r hz hq hr => ?_, by simpa using o2.trans l4⟩
        cases j with
        | zero =>
          simp at hz hq hr
          subst hz hq hr
          exact o1
        | succ j => exact l3 j z q r (by simpa using hz) (by simpa using hq) (by simpa using hr)
theorem node_keeps : ∀ (f : Nat) (a : Place) (st st' : WkS), nodeW G gen f a st = .inl st' → ∃ pg ks, OkW G gen a.id pg ks ∧ Keeps st st' pg ks
  | 0, a, st, st', h => by rw [nodeW] at h; cases h
  | f + 1, a, st, st', h => by
    rw [nodeW] at h
    split at h
    · cases h
    · rename_i s1 h1
      have k1 := see_keeps h1
      split at h
      · cases h
      · rename_i p hp
        split at h
        · cases h
        · rename_i n hn
          split at h
          · rename_i hl
            unfold leafW at h
            split at h
            · cases h
            · obtain ⟨e1, e2⟩ := ents_keeps _ _ _ h
              exact ⟨_, _, .leaf hp hn hl e2, by simpa using (k1.trans (atDepth_keeps a s1)).trans e1⟩
          · rename_i hl
            obtain ⟨ps, ks, l1, l2, l3, l4⟩ := kids_keeps (node_keeps f) n.kids 0 s1 st' h
            exact ⟨_, _, .inner hp hn (by simpa using hl) l1 l2 l3, by simpa using k1.trans l4⟩
/-! ### why it fails -/
theorem walkA_get : ∀ (f : Nat) (id n : Int), ∀ x ∈ (walkA G f id n).1, ∃ p, G.get x.1 = .inl p ∧ p.kind = 4
  | 0, _, _, x, hx => by simp [walkA] at hx
  | f + 1, id, n, x, hx => by
    rw [walkA] at hx
    split at hx
    · simp at hx
    · split at hx
      · simp at hx
      · rename_i y hy
        split at hx
        · simp at hx
        · rename_i hb
          rcases List.mem_cons.1 hx with rfl | hx
          · refine ⟨y, hy, ?_⟩
            unfold pieceBad at hb
            simp only [Bool.or_eq_true, not_or, decide_eq_true_eq] at hb
            exact Classical.byContradiction fun h => hb.1.1.2 h
          · exact walkA_get f _ _ x hx
theorem chW_get {e : EntryA} : ∀ i ∈ chW G e, ∃ p, G.get i = .inl p ∧ p.kind = 4 := by
  intro i hi
  unfold chW at hi
  split at hi
  · simp at hi
  · obtain ⟨x, hx, rfl⟩ := List.mem_map.1 hi
    exact walkA_get _ _ _ x hx
theorem see_5 {st : WkS} {id : Int} {er : Err} (h : seeW st id = .inr er) : er.2 = 5 := by
  unfold seeW at h
  split at h
  · injection h with h; subst h; rfl
  · cases h
theorem young_5 {id : Int} {er : Err} (hg : ∀ l k, G.get id = .inr (l, k) → k = 5) (h : youngW G gen id = .inr er) : er.2 = 5 := by
  unfold youngW at h
  split at h
  · rename_i e he
    injection h with h; subst h
    exact hg _ _ he
  · split at h
    · injection h with h; subst h; rfl
    · cases h
theorem ids_5 : ∀ (ids : List Int) (st : WkS) (er : Err), (∀ i ∈ ids, ∃ p, G.get i = .inl p) → idsW G gen ids st = .inr er → er.2 = 5
  | [], st, er, _, h => by rw [idsW] at h; cases h
  | id :: r, st, er, hi, h => by
    rw [idsW] at h
    split at h
    · rename_i e he; injection h with h; subst h; exact see_5 he
    · split at h
      · rename_i e he
        injection h with h; subst h
        obtain ⟨p, hp⟩ := hi id List.mem_cons_self
        exact young_5 (fun l k hk => by rw [hp] at hk; cases hk) he
      · exact ids_5 r _ er (fun i hm => hi i (List.mem_cons_of_mem _ hm)) h
theorem chained_5 {e : EntryA} {st : WkS} {er : Err} (hc : e.chain ≠ 0 → ∀ q, chErr G e.chain e.size = some q → q.2 = 5) (h : chainedW G gen e st = .inr er) : er.2 = 5 := by
  have hg := @chW_get G e
  unfold chainedW at h
  unfold chW at hg
  split at h
  · cases h
  · rename_i hz
    rw [if_neg hz] at hg
    split at h
    · rename_i q hq
      injection h with h; subst h
      exact hc hz _ hq
    · exact ids_5 _ _ _ (fun i hi => by obtain ⟨p, hp, _⟩ := hg i hi; exact ⟨p, hp⟩) h
theorem ents_5 {a : Place} : ∀ (es : List EntryA) (st : WkS) (er : Err), (∀ e ∈ es, e.chain ≠ 0 → ∀ q, chErr G e.chain e.size = some q → q.2 = 5) → entsW G gen a es st = .inr er → er.2 = 5
  | [], st, er, _, h => by rw [entsW] at h; cases h
  | e :: r, st, er, hc, h => by
    rw [entsW] at h
    split at h
    · injection h with h; subst h; rfl
    · split at h
      · rename_i q hq
        injection h with h; subst h
        exact chained_5 (hc e List.mem_cons_self) hq
      · exact ents_5 r _ er (fun x hx => hc x (List.mem_cons_of_mem _ hx)) h
theorem kids_5 {rec_ : Place → WkS → WkS ⊕ Err} {n : NodeA} {a : Place} {S : Int → Prop} (h : ∀ (b : Place) (st : WkS) (er : Err), S b.id → rec_ b st = .inr er → er.2 = 5) :
    ∀ (kids : List Int) (i : Nat) (st : WkS) (er : Err), (∀ k ∈ kids, S k) → kidsW rec_ n a kids i st = .inr er → er.2 = 5
  | [], i, st, er, _, h1 => by rw [kidsW] at h1; cases h1
  | k :: kids, i, st, er, hs, h1 => by
    rw [kidsW] at h1
    split at h1
    · injection h1 with h1; subst h1; rfl
    · split at h1
      · rename_i e he
        injection h1 with h1; subst h1
        exact h (kidPlace n a i k) st _ (hs k List.mem_cons_self) he
      · exact kids_5 h kids (i + 1) _ er (fun x hx => hs x (List.mem_cons_of_mem _ hx)) h1
/-- each error says that something is corrupt. -/
theorem node_5 {S : Int → Prop} (h1 : ∀ id, S id → ∀ l k, G.get id = .inr (l, k) → k = 5)
    (h2 : ∀ id p n, S id → G.get id = .inl p → decodeA p = .inl n → (n.leaf = false → ∀ k ∈ n.kids, S k) ∧ (n.leaf = true → ∀ e ∈ n.entries, e.chain ≠ 0 → ∀ q, chErr G e.chain e.size = some q → q.2 = 5)) :
    ∀ (f : Nat) (a : Place) (st : WkS) (er : Err), S a.id → nodeW G gen f a st = .inr er → er.2 = 5
  | 0, a, st, er, _, h => by rw [nodeW] at h; injection h with h; subst h; rfl
  | f + 1, a, st, er, hs, h => by
    rw [nodeW] at h
    split at h
    · rename_i e he; injection h with h; subst h; exact see_5 he
    · split at h
      · rename_i e he
        injection h with h; subst h
        exact young_5 (h1 _ hs) he
      · rename_i p hp
        split at h
        · rename_i e he
          injection h with h; subst h
          unfold decodeA at he
          split at he
          · split at he
            · cases he
            · injection he with he; subst he; rfl
          · injection he with he; subst he; rfl
        · rename_i n hn
          obtain ⟨j1, j2⟩ := h2 _ _ _ hs (youngW_get hp).1 hn
          split at h
          · rename_i hl
            unfold leafW at h
            split at h
            · injection h with h; subst h; rfl
            · exact ents_5 _ _ _ (j2 hl) h
          · rename_i hl
            exact kids_5 (node_5 h1 h2 f) _ _ _ _ (j1 (by simpa using hl)) h
/-! ### each kid, and each key, once -/
def nd0 : NodeA := ⟨true, [], [], []⟩
def ndOf (G : GA) (x : Int) : NodeA := match G.get x with
  | .inl p => (match decodeA p with | .inl n => n | .inr _ => nd0)
  | .inr _ => nd0
theorem ndOf_young {id : Int} {p : PageA} {n : NodeA} (h : youngW G gen id = .inl p) (hn : decodeA p = .inl n) : ndOf G id = n := by
  unfold ndOf
  rw [(youngW_get h).1]
  simp only [hn]
theorem ndOf_chain {e : EntryA} {i : Int} (h : i ∈ chW G e) : ndOf G i = nd0 := by
  obtain ⟨p, hp, hk⟩ := chW_get i h
  unfold ndOf
  rw [hp]
  simp only
  unfold decodeA
  rw [if_neg (by omega)]
theorem leaf_kids {n : NodeA} (h : rightN n = true) (hl : n.leaf = true) : n.kids = [] := by
  unfold rightN at h
  rw [if_pos hl] at h
  simp only [Bool.and_eq_true, List.isEmpty_iff] at h
  exact h.1.1.2
theorem inner_ents {n : NodeA} (h : rightN n = true) (hl : n.leaf = false) : n.entries = [] := by
  unfold rightN at h
  rw [if_neg (by rw [hl]; simp)] at h
  simp only [Bool.and_eq_true, List.isEmpty_iff] at h
  exact h.1.1.1.1.1.1.1
theorem countP_none {α : Type} {f : α → Bool} {l : List α} (h : ∀ x ∈ l, f x = false) : l.countP f = 0 := by
  rw [List.countP_eq_zero]
  intro x hx
  rw [h x hx]
  simp
theorem OkW.form {id : Int} {pg : List Int} {ks : List ByteArray} (h : OkW G gen id pg ks) : ∃ r, pg = id :: r := by cases h <;> exact ⟨_, rfl⟩
theorem kids_count {f : Int → Bool} {z : Int} : ∀ (kids : List Int) (ps : List (List Int)), ps.length = kids.length → (∀ (i : Nat) (k : Int) (q : List Int), kids[i]? = some k → ps[i]? = some q → ∃ r, q = k :: r ∧ q.countP f ≤ r.count z) → ps.flatten.countP f + kids.count z ≤ ps.flatten.count z
  | [], ps, hl, _ => by
    have : ps = [] := List.length_eq_zero_iff.1 hl
    subst this
    simp
  | k :: kids, [], hl, _ => by simp at hl
  | k :: kids, q :: ps, hl, h => by
    obtain ⟨r, e, h1⟩ := h 0 k q rfl rfl
    subst e
    have ih := kids_count kids ps (by simpa using hl) (fun i k2 q2 hk hq => h (i + 1) k2 q2 (by simpa using hk) (by simpa using hq))
    rw [List.flatten_cons, List.countP_append, List.count_append, List.count_cons (l := kids), List.count_cons (l := r)]
    omega
theorem OkW.kids1 {id : Int} {pg : List Int} {ks : List ByteArray} (h : OkW G gen id pg ks) (z : Int) : ∃ r, pg = id :: r ∧ pg.countP (fun x => decide (z ∈ (ndOf G x).kids)) ≤ r.count z := by
  induction h with
  | @leaf id p n h1 h2 h3 h4 =>
    refine ⟨_, rfl, ?_⟩
    rw [countP_none]
    · omega
    · intro x hx
      have : (ndOf G x).kids = [] := by
        rcases List.mem_cons.1 hx with rfl | hx
        · rw [ndOf_young h1 h2]; exact leaf_kids (decodeA_right h2).1 h3
        · obtain ⟨e, _, hi⟩ := List.mem_flatMap.1 hx
          rw [ndOf_chain hi]; rfl
      rw [this]; rfl
  | @inner id p n ps ks h1 h2 h3 h4 h5 h6 ih =>
    refine ⟨_, rfl, ?_⟩
    have hk := kids_count (f := fun x => decide (z ∈ (ndOf G x).kids)) (z := z) n.kids ps h4 (fun i k q hk hq => by
      have hi : i < ks.length := by have := (List.getElem?_eq_some_iff.1 hk).1; omega
      exact ih i k q ks[i] hk hq (List.getElem?_eq_getElem hi))
    rw [List.countP_cons, ndOf_young h1 h2]
    by_cases hz : z ∈ n.kids
    · have := List.count_pos_iff.2 hz
      simp only [hz, decide_true, if_true]
      omega
    · simp only [hz, decide_false, Bool.false_eq_true, if_false]
      omega
/-- keys, as lists of bytes. -/
def kL (l : List ByteArray) : List (List UInt8) := l.map fun b => b.data.toList
def eL (n : NodeA) : List (List UInt8) := kL (n.entries.map (·.key))
theorem keys_count {f : Int → Bool} {z : List UInt8} : ∀ (ps : List (List Int)) (ks : List (List ByteArray)), ks.length = ps.length → (∀ (i : Nat) (q : List Int) (r : List ByteArray), ps[i]? = some q → ks[i]? = some r → q.countP f ≤ (kL r).count z) → ps.flatten.countP f ≤ (kL ks.flatten).count z
  | [], ks, hl, _ => by simp
  | q :: ps, [], hl, _ => by simp at hl
  | q :: ps, r :: ks, hl, h => by
    have h1 := h 0 q r rfl rfl
    have ih := keys_count ps ks (by simpa using hl) (fun i q2 r2 hk hq => h (i + 1) q2 r2 (by simpa using hk) (by simpa using hq))
    have e : kL (r :: ks).flatten = kL r ++ kL ks.flatten := by simp [kL]
    rw [List.flatten_cons, e, List.countP_append, List.count_append]
    omega
theorem OkW.keys1 {id : Int} {pg : List Int} {ks : List ByteArray} (h : OkW G gen id pg ks) (z : List UInt8) : pg.countP (fun x => decide (z ∈ eL (ndOf G x))) ≤ (kL ks).count z := by
  induction h with
  | @leaf id p n h1 h2 h3 h4 =>
    rw [List.countP_cons, countP_none, ndOf_young h1 h2]
    · show 0 + _ ≤ (eL n).count z
      by_cases hz : z ∈ eL n
      · have := List.count_pos_iff.2 hz
        simp only [hz, decide_true, if_true]
        omega
      · simp only [hz, decide_false, Bool.false_eq_true, if_false]
        omega
    · intro x hx
      obtain ⟨e, _, hi⟩ := List.mem_flatMap.1 hx
      rw [ndOf_chain hi]
      rfl
  | @inner id p n ps ks h1 h2 h3 h4 h5 h6 ih =>
    have hk := keys_count (f := fun x => decide (z ∈ eL (ndOf G x))) (z := z) ps ks (by omega) (fun i q r hq hr => by
      have hi : i < n.kids.length := by have := (List.getElem?_eq_some_iff.1 hq).1; omega
      exact ih i n.kids[i] q r (List.getElem?_eq_getElem hi) hq hr)
    rw [List.countP_cons, ndOf_young h1 h2]
    unfold eL at hk ⊢
    rw [inner_ents (decodeA_right h2).1 h3]
    simpa [kL] using hk
theorem two_count {α : Type} {f : α → Bool} : ∀ {l : List α} {a b : α}, a ≠ b → a ∈ l → b ∈ l → f a = true → f b = true → 2 ≤ l.countP f
  | [], a, b, _, h, _, _, _ => by simp at h
  | x :: l, a, b, hne, ha, hb, fa, fb => by
    rw [List.countP_cons]
    rcases List.mem_cons.1 ha with ea | ha'
    · rcases List.mem_cons.1 hb with eb | hb'
      · exact absurd (ea.trans eb.symm) hne
      · have : 0 < l.countP f := List.countP_pos_iff.2 ⟨b, hb', fb⟩
        rw [← ea, fa, if_pos rfl]; omega
    · rcases List.mem_cons.1 hb with eb | hb'
      · have : 0 < l.countP f := List.countP_pos_iff.2 ⟨a, ha', fa⟩
        rw [← eb, fb, if_pos rfl]; omega
      · have := two_count hne ha' hb' fa fb
        omega
/-- no two nodes of a tree that was walked are alike. -/
theorem OkW.apart {id : Int} {pg : List Int} {ks : List ByteArray} (h : OkW G gen id pg ks) (hn : pg.Nodup) (hk : KeysUp ks) {a b : Int} (ha : a ∈ pg) (hb : b ∈ pg) (hab : a ≠ b) (he : ndOf G a = ndOf G b) : (ndOf G a).kids = [] ∧ (ndOf G a).entries = [] := by
  constructor
  · cases hz : (ndOf G a).kids with
    | nil => rfl
    | cons z r =>
      exfalso
      obtain ⟨q, e, h1⟩ := h.kids1 z
      have h2 := two_count (f := fun x => decide (z ∈ (ndOf G x).kids)) hab ha hb (by simp [hz]) (by simp [← he, hz])
      have h3 := List.nodup_iff_count.1 hn z
      rw [e, List.count_cons] at h3
      rw [e] at h1 h2
      omega
  · cases hz : (ndOf G a).entries with
    | nil => rfl
    | cons z r =>
      exfalso
      have h1 := h.keys1 z.key.data.toList
      have hm : z.key.data.toList ∈ eL (ndOf G a) := by unfold eL kL; rw [hz]; simp
      have h2 := two_count (f := fun x => decide (z.key.data.toList ∈ eL (ndOf G x))) hab ha hb (by simp only [hm, decide_true]) (by rw [← he]; simp only [hm, decide_true])
      have hnd : (kL ks).Nodup := List.pairwise_map.2 (hk.imp (fun hl e => ltS_ne hl (ByteArray.ext (Array.ext' e))))
      have h3 := List.nodup_iff_count.1 hnd z.key.data.toList
      omega
end
end Go.Proofs.YtepafbokbfcbgaaGreatDoor
namespace Go.Proofs.YtepafbokbfcbgaaGreatDoor
open Go.RowKit
/-- the way down to a node. -/
inductive Rch (ps : List PageA) : Nat → Nat → Prop
  | refl (id : Nat) : Rch ps id id
  | step {id n k x} : nodeV ps id = some n → n.leaf = false → k ∈ n.kids → 0 ≤ k → k < (id : Int) → Rch ps k.toNat x → Rch ps id x
section
variable {G G' : GA} {ps : List PageA} {gen g : Nat} {id x b root d : Nat} {pgs : List Nat}
theorem Rch.le (h : Rch ps id x) : x ≤ id := by
  induction h with
  | refl => exact Nat.le_refl _
  | step _ _ _ h4 h5 _ ih => omega
theorem nodeV_right {n : NodeA} (h : nodeV ps id = some n) : rightN n = true := by
  obtain ⟨p, _, h2⟩ := node_page h
  exact (decodeA_right h2).1
theorem chain_none {c s : Int} {v : ByteArray} (hc : chainV ps g c s v) (hx : x ∈ List.range' c.toNat (ndK s.toNat)) : nodeV ps x = none ∧ ∃ p, pageAt ps x = some p ∧ p.kind = 4 := by
  obtain ⟨hs, _, _, k, rfl, hp⟩ := hc
  rw [List.mem_range'_1] at hx
  subst hs
  rw [Int.toNat_natCast, Int.toNat_natCast] at hx
  have h1 := hp (x - (k + 2)) (by omega)
  rw [show x - (k + 2) + (k + 2) = x by omega] at h1
  refine ⟨?_, _, h1, rfl⟩
  unfold nodeV
  rw [h1]
  rfl
/-- where a page of a tree stands. -/
def Stands (ps : List PageA) (gen root x : Nat) : Prop :=
  (∃ n, nodeV ps x = some n ∧ Rch ps root x) ∨ (∃ y n e v, Rch ps root y ∧ nodeV ps y = some n ∧ n.leaf = true ∧ e ∈ n.entries ∧ e.chain ≠ 0 ∧ chainV ps gen e.chain e.size v ∧ x ∈ List.range' e.chain.toNat (ndK e.size.toNat))
theorem chI_in {e : EntryA} (h : x ∈ chI e) : e.chain ≠ 0 ∧ x ∈ List.range' e.chain.toNat (ndK e.size.toNat) := by
  unfold chI at h
  split at h
  · simp at h
  · rename_i hc; exact ⟨hc, h⟩
theorem TrI.stands (h : TrI ps gen id d pgs) : ∀ x ∈ pgs, Stands ps gen id x := by
  induction h with
  | @leaf id n h1 h2 h3 h4 =>
    intro x hx
    rcases List.mem_cons.1 hx with rfl | hx
    · exact .inl ⟨n, h1, .refl _⟩
    · obtain ⟨e, he, hi⟩ := List.mem_flatMap.1 hx
      obtain ⟨k1, k2⟩ := chI_in hi
      obtain ⟨v, hv⟩ := h4 e he k1
      exact .inr ⟨id, n, e, v, .refl _, h1, h2, he, k1, hv, k2⟩
  | @inner id n d parts h1 h2 h3 h4 h5 h6 ih =>
    intro x hx
    rcases List.mem_cons.1 hx with rfl | hx
    · exact .inl ⟨n, h1, .refl _⟩
    · obtain ⟨p, hp, hx⟩ := List.mem_flatten.1 hx
      obtain ⟨i, hi, e⟩ := List.getElem_of_mem hp
      have hik : i < n.kids.length := by omega
      have hm : n.kids[i] ∈ n.kids := List.getElem_mem hik
      have h0 := ((rightN_inner (nodeV_right h1) h2).2.2 _ hm).1
      have hlt := h5 _ hm
      rcases ih i n.kids[i] p (List.getElem?_eq_getElem hik) (by rw [← e]; exact List.getElem?_eq_getElem hi) x hx with ⟨m, q1, q2⟩ | ⟨y, m, e, v, q1, q2⟩
      · exact .inl ⟨m, q1, .step h1 h2 hm (by omega) hlt q2⟩
      · exact .inr ⟨y, m, e, v, .step h1 h2 hm (by omega) hlt q1, q2⟩
theorem TrI.head (h : TrI ps gen id d pgs) : id ∈ pgs := by
  obtain ⟨r, rfl⟩ := h.form
  exact List.mem_cons_self
theorem TrI.nodes (h : TrI ps gen id d pgs) : ∀ x ∈ pgs, ∀ n, nodeV ps x = some n → (n.leaf = false → ∀ k ∈ n.kids, 0 ≤ k ∧ k.toNat ∈ pgs) ∧ (n.leaf = true → n.entries ≠ [] ∧ ∀ e ∈ n.entries, e.chain ≠ 0 → ∃ v, chainV ps gen e.chain e.size v) := by
  induction h with
  | @leaf id n h1 h2 h3 h4 =>
    intro x hx m hm
    rcases List.mem_cons.1 hx with rfl | hx
    · rw [h1] at hm; injection hm with hm; subst hm
      exact ⟨fun hl => (by rw [h2] at hl; cases hl), fun _ => ⟨h3, h4⟩⟩
    · obtain ⟨e, he, hi⟩ := List.mem_flatMap.1 hx
      obtain ⟨k1, k2⟩ := chI_in hi
      obtain ⟨v, hv⟩ := h4 e he k1
      rw [(chain_none hv k2).1] at hm
      cases hm
  | @inner id n d parts h1 h2 h3 h4 h5 h6 ih =>
    intro x hx m hm
    rcases List.mem_cons.1 hx with rfl | hx
    · rw [h1] at hm; injection hm with hm; subst hm
      refine ⟨fun _ k hk => ?_, fun hl => by rw [h2] at hl; cases hl⟩
      have h0 := ((rightN_inner (nodeV_right h1) h2).2.2 _ hk).1
      obtain ⟨i, hi, e⟩ := List.getElem_of_mem hk
      have hip : i < parts.length := by omega
      have ht := h4 i k parts[i] (by rw [← e]; exact List.getElem?_eq_getElem hi) (List.getElem?_eq_getElem hip)
      exact ⟨by omega, List.mem_cons_of_mem _ (List.mem_flatten.2 ⟨_, List.getElem_mem hip, ht.head⟩)⟩
    · obtain ⟨p, hp, hx⟩ := List.mem_flatten.1 hx
      obtain ⟨i, hi, e⟩ := List.getElem_of_mem hp
      have hik : i < n.kids.length := by omega
      obtain ⟨q1, q2⟩ := ih i n.kids[i] p (List.getElem?_eq_getElem hik) (by rw [← e]; exact List.getElem?_eq_getElem hi) x hx m hm
      exact ⟨fun hl k hk => ⟨(q1 hl k hk).1, List.mem_cons_of_mem _ (List.mem_flatten.2 ⟨p, hp, (q1 hl k hk).2⟩)⟩, q2⟩
/-- a root over others is the last page. -/
theorem TrI.last (h : TrI ps gen id d pgs) : (∀ x ∈ pgs, x ≠ id → nodeV ps x = none) ∨ ∀ x ∈ pgs, x ≤ id := by
  cases h with
  | leaf h1 h2 h3 h4 =>
    refine .inl (fun x hx hne => ?_)
    rcases List.mem_cons.1 hx with rfl | hx
    · exact absurd rfl hne
    · obtain ⟨e, he, hi⟩ := List.mem_flatMap.1 hx
      obtain ⟨k1, k2⟩ := chI_in hi
      obtain ⟨v, hv⟩ := h4 e he k1
      exact (chain_none hv k2).1
  | inner h1 h2 h3 h4 h5 h6 =>
    refine .inr (fun x hx => ?_)
    rcases List.mem_cons.1 hx with rfl | hx
    · exact Nat.le_refl _
    · exact Nat.le_of_lt (h6 x hx)
/-- what is reached was walked. -/
theorem OkW.reach (h : Rch ps id x) : ∀ {pg : List Int} {ks : List ByteArray}, OkW G gen (id : Int) pg ks → (∀ y n, x < y → nodeV ps y = some n → ∀ p, G.get (y : Int) = .inl p → decodeA p = .inl n) → ∃ pg' ks', OkW G gen (x : Int) pg' ks' ∧ ∀ i ∈ pg', i ∈ pg := by
  induction h with
  | refl id => exact fun h _ => ⟨_, _, h, fun _ h => h⟩
  | @step id n k x h1 h2 h3 h4 h5 h6 ih =>
    intro pg ks hO hs
    have hx := h6.le
    have hkk : ((k.toNat : Nat) : Int) = k := by omega
    generalize hz : (id : Int) = z at hO
    cases hO with
    | @leaf _ p m o1 o2 o3 o4 =>
      subst hz
      have := hs id n (by omega) h1 p (youngW_get o1).1
      rw [o2] at this; injection this with this; subst this
      rw [h2] at o3; cases o3
    | @inner _ p m qs ks o1 o2 o3 o4 o5 o6 =>
      subst hz
      have := hs id n (by omega) h1 p (youngW_get o1).1
      rw [o2] at this; injection this with this; subst this
      obtain ⟨i, hi, e⟩ := List.getElem_of_mem h3
      have hiq : i < qs.length := by omega
      have hik : i < ks.length := by omega
      have ho := o6 i k qs[i] ks[i] (by rw [← e]; exact List.getElem?_eq_getElem hi) (List.getElem?_eq_getElem hiq) (List.getElem?_eq_getElem hik)
      rw [← hkk] at ho
      obtain ⟨pg', ks', j1, j2⟩ := ih ho hs
      exact ⟨pg', ks', j1, fun q hq => List.mem_cons_of_mem _ (List.mem_flatten.2 ⟨_, List.getElem_mem hiq, j2 q hq⟩)⟩
/-- all but one page. -/
structure SpG (G : GA) (ps : List PageA) (b : Nat) : Prop where
  size : G.size = 256
  b256 : G.blocks ≤ 256
  fit : 2 + ps.length ≤ G.blocks
  same : ∀ id p, id ≠ b → pageAt ps id = some p → G.view id = some (.inl p)
/-- .. and that one: it can't be read, or is too young, or reads as another one. -/
def SpBad (G : GA) (ps : List PageA) (b : Nat) : Prop :=
  (∃ l, G.view b = some (.inr (l, 5))) ∨ (∃ o q q', pageAt ps o = some q ∧ G.view b = some (.inl q') ∧ q'.kind = q.kind ∧ q'.body = q.body ∧ q.kind ≠ 4 ∧ (o = b + 1 ∨ nodeV ps b = none))
def SpYoung (G : GA) (ps : List PageA) (b : Nat) : Prop := ∃ p p', pageAt ps b = some p ∧ G.view b = some (.inl p') ∧ p'.kind = p.kind ∧ p'.body = p.body ∧ 5 < p'.gen
theorem SpG.get (h : SpG G ps b) {p : PageA} (hi : id ≠ b) (hp : pageAt ps id = some p) : G.get (id : Int) = .inl p := by
  have := pageAt_lt hp
  have := h.fit
  exact get_view (by omega) (h.same _ _ hi hp)
theorem decode_alike {p q : PageA} {n : NodeA} (hk : q.kind = p.kind) (hb : q.body = p.body) (h : decodeA p = .inl n) : decodeA q = .inl n := by
  unfold decodeA at h ⊢
  rw [hk, hb]
  split at h
  · rename_i hc
    rw [if_pos hc]
    split at h
    · rename_i m hm
      first
        | exact h
        | (rw [hm]; exact h)
    · cases h
  · cases h
theorem page_node {p : PageA} {n : NodeA} (hp : pageAt ps id = some p) (h : decodeA p = .inl n) : nodeV ps id = some n := by
  unfold nodeV
  rw [hp]
  simp only
  unfold decodeA at h
  split at h
  · rename_i hc
    split at h
    · rename_i m hm
      injection h with h; subst h
      by_cases h3 : p.kind = 3
      · rw [if_pos h3]; rw [decide_eq_true h3] at hm; exact hm
      · rw [if_neg h3, if_pos (hc.resolve_left h3)]; rw [decide_eq_false h3] at hm; exact hm
    · cases h
  · cases h
/-! ### chains -/
theorem walk_stop {v : List UInt8} {k m nn : Nat} (hf : Fit v.length nn m) (hs : G.size = nn + 28) (hb : k + 2 + m ≤ G.blocks) (hb2 : G.blocks ≤ 256) {j : Nat} (hj : j < m) {E : Err} (hbad : ∀ (f : Nat) (n : Int), 0 < n → (walkA G (f + 1) ((j + (k + 2) : Nat) : Int) n).2 = some E)
    (h : ∀ i, i < m → i ≠ j → PageK G gen v k m i) :
    ∀ (c i f : Nat), i + c = j → v.length - i * nn ≤ f → (walkA G f (((idsK k m).getD i 0 : Nat) : Int) ((v.length - i * nn : Nat) : Int)).2 = some E
  | 0, i, f, hc, hfu => by
    have hij : i = j := by omega
    subst hij
    have hl : i * nn < v.length := hf.left hj
    obtain ⟨f, rfl⟩ : ∃ f', f = f' + 1 := ⟨f - 1, by omega⟩
    rw [idsK_at, if_pos hj]
    exact hbad f _ (by omega)
  | c + 1, i, f, hc, hfu => by
    have hi : i < m := by omega
    have hl := hf.left hi
    obtain ⟨f, rfl⟩ : ∃ f', f = f' + 1 := ⟨f - 1, by omega⟩
    have hnn := hf.n228
    have h1 := walk_stop hf hs hb hb2 hj hbad h c (i + 1) f (by omega) (by rw [Nat.succ_mul]; omega)
    obtain ⟨s1, s2⟩ := walk_step (gen := gen) hf hs hb hb2 hi (h i hi (by omega)) f
    rw [idsK_at k m i, if_pos hi]
    rw [s1]
    exact h1
def Alike (r r' : PageA ⊕ Err) : Prop := match r, r' with
  | .inl x, .inl y => x.kind = y.kind ∧ x.body = y.body
  | .inr e, .inr e' => e = e'
  | _, _ => False
theorem walkA_alike (hsz : G.size = G'.size) (h : ∀ i, Alike (G.get i) (G'.get i)) : ∀ (f : Nat) (i n : Int), walkA G f i n = walkA G' f i n
  | 0, _, _ => rfl
  | f + 1, i, n => by
    rw [walkA, walkA]
    split
    · rfl
    · have hi := h i
      cases hg : G.get i with
      | inr e =>
        cases hg' : G'.get i with
        | inr e' => rw [hg, hg'] at hi; simp only; rw [show e = e' from hi]
        | inl y => rw [hg, hg'] at hi; exact hi.elim
      | inl x =>
        cases hg' : G'.get i with
        | inr e' => rw [hg, hg'] at hi; exact hi.elim
        | inl y =>
          rw [hg, hg'] at hi
          obtain ⟨h1, h2⟩ := hi
          have hp : pieceBad G.size x n = pieceBad G'.size y n := by unfold pieceBad; rw [h1, h2, hsz]
          simp only
          rw [hp, h2, hsz, walkA_alike hsz h f]
theorem chErr_alike (hsz : G.size = G'.size) (h : ∀ i, Alike (G.get i) (G'.get i)) (c s : Int) : chErr G c s = chErr G' c s := by
  unfold chErr
  rw [walkA_alike hsz h]
/-- the page as it was. -/
def GA.fix (G : GA) (b : Nat) (p : PageA) : GA := { G with view := upd G.view b (some (.inl p)) }
theorem SpG.fixed (h : SpG G ps b) {p : PageA} (hp : pageAt ps b = some p) : OnG (G.fix b p) ps := by
  refine ⟨h.size, h.b256, h.fit, fun id q hq => ?_⟩
  by_cases e : id = b
  · subst e
    rw [hp] at hq; injection hq with hq; subst hq
    exact upd_self _ _ _
  · exact (upd_ne _ _ e).trans (h.same _ _ e hq)
theorem get_fix_far {p : PageA} {i : Int} (hi : i ≠ (b : Int)) : (G.fix b p).get i = G.get i := by
  unfold GA.get GA.check GA.fix
  by_cases hc : i < 0 ∨ (G.blocks : Int) ≤ i
  · simp only [if_pos hc]
  · simp only [if_neg hc]
    rw [upd_ne _ _ (by omega : i.toNat ≠ b)]
theorem alike_self (r : PageA ⊕ Err) : Alike r r := by
  cases r
  · exact ⟨rfl, rfl⟩
  · exact rfl
theorem SpYoung.chain (hy : SpYoung G ps b) (h : SpG G ps b) {c s : Int} {v : ByteArray} (hc : chainV ps g c s v) :
    chErr G c s = none ∧ (walkA G s.toNat c s).1.map (·.1) = iL (List.range' c.toNat (ndK s.toNat)) := by
  obtain ⟨p, p', h1, h2, h3, h4, _⟩ := hy
  have hO := h.fixed h1
  have hlt := pageAt_lt h1
  have hfit := h.fit
  have hal : ∀ i, Alike (G.get i) ((G.fix b p).get i) := fun i => by
    by_cases hi : i = (b : Int)
    · subst hi
      rw [get_view (by omega) h2, hO.get h1]
      exact ⟨h3, h4⟩
    · rw [get_fix_far hi]; exact alike_self _
  obtain ⟨k1, k2, _⟩ := hO.chainI hc
  exact ⟨by rw [chErr_alike (G := G) (G' := G.fix b p) rfl hal]; exact k1, by rw [walkA_alike (G := G) (G' := G.fix b p) rfl hal]; exact k2⟩
theorem SpG.chain_far (h : SpG G ps b) {c s : Int} {v : ByteArray} (hc : chainV ps g c s v) (hb : b ∉ List.range' c.toNat (ndK s.toNat)) : chErr G c s = none := by
  obtain ⟨hs, h25, h4096, k, rfl, hp⟩ := hc
  subst hs
  rw [Int.toNat_natCast, Int.toNat_natCast, List.mem_range'_1] at hb
  have hl : v.data.toList.length = v.size := size_toList v
  have hf : Fit v.data.toList.length 228 (ndK v.size) := by rw [hl]; exact ndK_fit _ (by omega)
  have hsz : G.size = 228 + 28 := h.size
  have hH : Holds G g v.data.toList k (ndK v.size) := fun i hi => by
    unfold PageK
    rw [h.size]
    exact h.same _ _ (by omega) (hp i hi)
  have hn : 1 ≤ ndK v.size := by unfold ndK; omega
  have h6 := (pageAt_lt (hp (ndK v.size - 1) (by omega))).2
  have hfit := h.fit
  have := chErr_holds hf hsz (by omega) h.b256 hH (by omega) (by omega)
  rw [hl] at this
  exact this
theorem SpBad.chain (hy : SpBad G ps b) (h : SpG G ps b) (hbl : b < 2 + ps.length) {c s : Int} {v : ByteArray} (hc : chainV ps g c s v) (hb : b ∈ List.range' c.toNat (ndK s.toNat)) : ∃ er, chErr G c s = some er ∧ er.2 = 5 := by
  obtain ⟨hs, h25, h4096, k, rfl, hp⟩ := hc
  subst hs
  rw [Int.toNat_natCast, Int.toNat_natCast, List.mem_range'_1] at hb
  have hl : v.data.toList.length = v.size := size_toList v
  have hf : Fit v.data.toList.length 228 (ndK v.size) := by rw [hl]; exact ndK_fit _ (by omega)
  have hsz : G.size = 228 + 28 := h.size
  have hn : 1 ≤ ndK v.size := by unfold ndK; omega
  have h6 := (pageAt_lt (hp (ndK v.size - 1) (by omega))).2
  have hfit := h.fit
  obtain ⟨E, hE5, hE⟩ : ∃ E : Err, E.2 = 5 ∧ ∀ (f : Nat) (n : Int), 0 < n → (walkA G (f + 1) (b : Int) n).2 = some E := by
    rcases hy with ⟨l, hv⟩ | ⟨o, q, q', _, hv, hk, _, hk4, _⟩
    · refine ⟨(-1 :: l, 5), rfl, fun f n hn0 => ?_⟩
      rw [walkA, if_neg (by omega), get_bad (by omega) hv]
    · refine ⟨([pgOf (b : Int)], 5), rfl, fun f n hn0 => ?_⟩
      rw [walkA, if_neg (by omega), get_view (by omega) hv]
      simp only
      rw [if_pos]
      unfold pieceBad
      rw [hk, decide_eq_true hk4]
      simp
  have hw := walk_stop (G := G) (gen := g) (k := k) (m := ndK v.size) (E := E) hf hsz (by omega) h.b256 (j := b - (k + 2)) (by omega) (fun f n hn0 => by rw [show b - (k + 2) + (k + 2) = b by omega]; exact hE f n hn0) (fun i hi hij => by
    unfold PageK
    rw [h.size]
    exact h.same _ _ (by omega) (hp i hi)) (b - (k + 2)) 0 v.size (by omega) (by omega)
  rw [idsK_at, if_pos (by omega), hl] at hw
  unfold chErr chCheck
  rw [if_neg (by omega), Int.toNat_natCast]
  simp only [Nat.zero_mul, Nat.sub_zero, Nat.zero_add] at hw
  rw [hw]
  exact ⟨_, rfl, hE5⟩
/-- A TREE WITH A SPOILT PAGE. -/
theorem spoilt_tr (hI : TrI ps g root d pgs) (hperm : pgs.Perm (List.range' 2 ps.length)) (h : SpG G ps b) (hb : 2 ≤ b ∧ b < 2 + ps.length) (hs : SpBad G ps b ∨ SpYoung G ps b) (f : Nat) (lo hi : ByteArray) (dep : Nat) : ∃ er, nodeW G 5 f ⟨(root : Int), dep, lo, hi⟩ wk0 = .inr er ∧ er.2 = 5 := by
  have hin : ∀ x, x ∈ pgs ↔ 2 ≤ x ∧ x < 2 + ps.length := fun x => by rw [hperm.mem_iff, List.mem_range'_1]
  have hpage : ∀ x, 2 ≤ x ∧ x < 2 + ps.length → ∃ p, pageAt ps x = some p := fun x hx => by
    refine ⟨ps[x - 2]'(by omega), ?_⟩
    unfold pageAt
    rw [if_neg (by omega)]
    exact List.getElem?_eq_getElem _
  have hfit := h.fit
  have hsame : ∀ y n, y ≠ b → nodeV ps y = some n → ∀ p, G.get (y : Int) = .inl p → decodeA p = .inl n := fun y n hy hn p hp => by
    obtain ⟨q, hq, hd⟩ := node_page hn
    rw [h.get hy hq] at hp
    injection hp with hp
    rw [← hp]; exact hd
  -- a node that is come to is one of the tree's
  have hnode : ∀ (x : Nat) (p : PageA) (n : NodeA), 2 ≤ x ∧ x < 2 + ps.length → G.get (x : Int) = .inl p → decodeA p = .inl n → ∃ y, y ∈ pgs ∧ nodeV ps y = some n := fun x p n hx hp hn => by
    by_cases e : x = b
    · subst e
      rcases hs with (⟨l, hv⟩ | ⟨o, q, q', ho, hv, hk, hbd, _⟩) | ⟨q, q', ho, hv, hk, hbd, _⟩
      · rw [get_bad (by omega) hv] at hp; cases hp
      · rw [get_view (by omega) hv] at hp; injection hp with hp; subst hp
        exact ⟨o, (hin o).2 (pageAt_lt ho), page_node ho (decode_alike hk.symm hbd.symm hn)⟩
      · rw [get_view (by omega) hv] at hp; injection hp with hp; subst hp
        exact ⟨x, (hin x).2 hx, page_node ho (decode_alike hk.symm hbd.symm hn)⟩
    · obtain ⟨q, hq⟩ := hpage x hx
      rw [h.get e hq] at hp; injection hp with hp; subst hp
      exact ⟨x, (hin x).2 hx, page_node hq hn⟩
  cases hw : nodeW G 5 f ⟨(root : Int), dep, lo, hi⟩ wk0 with
  | inr er =>
    refine ⟨er, rfl, ?_⟩
    refine node_5 (S := fun i => 2 ≤ i ∧ i < ((2 + ps.length : Nat) : Int)) (fun i hi l k hg => ?_) (fun i p n hi hg hn => ?_) f _ _ _ (by have := (hin root).1 hI.head; show 2 ≤ (root : Int) ∧ (root : Int) < ((2 + ps.length : Nat) : Int); omega) hw
    · obtain ⟨x, rfl⟩ : ∃ x : Nat, i = (x : Int) := ⟨i.toNat, by omega⟩
      by_cases e : x = b
      · subst e
        rcases hs with (⟨l2, hv⟩ | ⟨o, q, q', ho, hv, _⟩) | ⟨q, q', ho, hv, _⟩
        · rw [get_bad (by omega) hv] at hg; injection hg with hg; injection hg with _ hg; exact hg.symm
        · rw [get_view (by omega) hv] at hg; cases hg
        · rw [get_view (by omega) hv] at hg; cases hg
      · obtain ⟨q, hq⟩ := hpage x (by omega)
        rw [h.get e hq] at hg; cases hg
    · obtain ⟨x, rfl⟩ : ∃ x : Nat, i = (x : Int) := ⟨i.toNat, by omega⟩
      obtain ⟨y, hy, hyn⟩ := hnode x p n (by omega) hg hn
      obtain ⟨n1, n2⟩ := hI.nodes y hy n hyn
      refine ⟨fun hl k hk => ?_, fun hl e he hc q hq => ?_⟩
      · obtain ⟨k0, k1⟩ := n1 hl k hk
        have := (hin _).1 k1
        omega
      · obtain ⟨v, hv⟩ := (n2 hl).2 e he hc
        by_cases hbm : b ∈ List.range' e.chain.toNat (ndK e.size.toNat)
        · rcases hs with hs | hs
          · obtain ⟨er, e1, e2⟩ := hs.chain h hb.2 hv hbm
            rw [e1] at hq; injection hq with hq; subst hq; exact e2
          · rw [(hs.chain h hv).1] at hq; cases hq
        · rw [h.chain_far hv hbm] at hq; cases hq
  | inl st =>
    exfalso
    obtain ⟨pg, ks, hO, hK⟩ := node_keeps f _ _ _ hw
    have hnd : pg.Nodup := by
      have := hK.nd List.nodup_nil
      rw [hK.pages] at this
      simpa [wk0] using this
    have hup : KeysUp ks := by
      have := hK.up List.Pairwise.nil
      rw [hK.keys] at this
      simpa [wk0] using this
    rcases hI.stands b ((hin b).2 hb) with ⟨n, hn, hr⟩ | ⟨y, n, e, v, hr, hn, hl, he, hc, hv, hx⟩
    · obtain ⟨pg', ks', o1, o2⟩ := OkW.reach hr hO (fun y m hy => hsame y m (by omega))
      obtain ⟨p, hp⟩ : ∃ p, youngW G 5 (b : Int) = .inl p := by cases o1 <;> exact ⟨_, by assumption⟩
      obtain ⟨hg, hgen⟩ := youngW_get hp
      have hbin : (b : Int) ∈ pg := by
        obtain ⟨r, hr'⟩ := o1.form
        exact o2 _ (by rw [hr']; exact List.mem_cons_self)
      rcases hs with (⟨l2, hv⟩ | ⟨o, q, q', ho, hv, hk, hbd, hk4, hor⟩) | ⟨q, q', ho, hv, hk, hbd, hy⟩
      · rw [get_bad (by omega) hv] at hg; cases hg
      · rcases hor with rfl | hor
        · rw [get_view (by omega) hv] at hg; injection hg with hg; subst hg
          rcases hI.stands (b + 1) ((hin _).2 (pageAt_lt ho)) with ⟨m, hm, hrm⟩ | ⟨_, _, e, v, _, _, _, _, _, hcv, hcx⟩
          · obtain ⟨pm, km, q1, q2⟩ := OkW.reach hrm hO (fun y z hy => hsame y z (by omega))
            have hoin : ((b + 1 : Nat) : Int) ∈ pg := by
              obtain ⟨r, hr'⟩ := q1.form
              exact q2 _ (by rw [hr']; exact List.mem_cons_self)
            have hdm := hsame (b + 1) m (by omega) hm q (h.get (by omega) ho)
            have e1 : ndOf G (b : Int) = m := ndOf_young hp (decode_alike hk hbd hdm)
            have e2 : ndOf G ((b + 1 : Nat) : Int) = m := by
              unfold ndOf
              rw [h.get (by omega) ho]
              simp only [hdm]
            obtain ⟨z1, z2⟩ := hO.apart hnd hup hbin hoin (by omega) (e1.trans e2.symm)
            rw [e1] at z1 z2
            have hr2 := nodeV_right hm
            cases hml : m.leaf with
            | true => exact ((hI.nodes (b + 1) ((hin _).2 (pageAt_lt ho)) m hm).2 hml).1 z2
            | false =>
              have := (rightN_inner hr2 hml).2.1
              rw [z1] at this
              simp at this
          · obtain ⟨_, p4, hp4, hp44⟩ := chain_none hcv hcx
            rw [ho] at hp4; injection hp4 with hp4; subst hp4
            exact hk4 hp44
        · rw [hor] at hn; cases hn
      · rw [get_view (by omega) hv] at hg; injection hg with hg; subst hg
        omega
    · have hbn := (chain_none hv hx).1
      have hyb : y ≠ b := fun e => by rw [e, hbn] at hn; cases hn
      obtain ⟨pg', ks', o1, o2⟩ := OkW.reach hr hO (fun z m hz hm => hsame z m (fun e => by rw [e, hbn] at hm; cases hm) hm)
      have hce : ChOk G 5 e := by
        generalize hz : (y : Int) = z at o1
        cases o1 with
        | @leaf _ p m a1 a2 a3 a4 =>
          subst hz
          have := hsame y n hyb hn p (youngW_get a1).1
          rw [a2] at this; injection this with this; subst this
          exact a4 e he
        | @inner _ p m qs ks a1 a2 a3 =>
          subst hz
          have := hsame y n hyb hn p (youngW_get a1).1
          rw [a2] at this; injection this with this; subst this
          rw [hl] at a3; cases a3
      obtain ⟨c1, c2⟩ := hce hc
      rcases hs with hs | hs
      · obtain ⟨er, e1, e2⟩ := hs.chain h hb.2 hv hx
        rw [e1] at c1; cases c1
      · obtain ⟨k1, k2⟩ := hs.chain h hv
        have hbw : (b : Int) ∈ chW G e := by
          unfold chW
          rw [if_neg hc, k2]
          exact List.mem_map_of_mem hx
        obtain ⟨p, hp⟩ := c2 _ hbw
        obtain ⟨hg, hgen⟩ := youngW_get hp
        obtain ⟨q, q', ho, hv2, _, _, hy⟩ := hs
        rw [get_view (by omega) hv2] at hg; injection hg with hg; subst hg
        omega
/-- WALK, OF A SPOILT TREE. -/
theorem spoilt_walk {l : List PairS} (hT : Tame 300 l) {e k : Nat} (he : 1 ≤ e) (he2 : e ≤ 3) (hk : 2 ≤ k) (hk2 : k ≤ 4) (h0 : l ≠ []) (h : SpG G (buildA 5 e k l).1 b) (hb : 2 ≤ b ∧ b < 2 + (buildA 5 e k l).1.length) (hs : SpBad G (buildA 5 e k l).1 b ∨ SpYoung G (buildA 5 e k l).1 b) :
    ∃ er, walkW G 5 ((buildA 5 e k l).2.1 : Int) = .inr er ∧ er.2 = 5 := by
  have hf := hT.few 5 e k he hk
  have := hT.len
  obtain ⟨p, hp⟩ : ∃ p, pageAt (buildA 5 e k l).1 b = some p := by
    refine ⟨(buildA 5 e k l).1[b - 2]'(by omega), ?_⟩
    unfold pageAt
    rw [if_neg (by omega)]
    exact List.getElem?_eq_getElem _
  have hO := h.fixed hp
  obtain ⟨_, h2, _, _⟩ := build_tr 5 e k he (by omega) hk (by omega) hT.sorted hT.ok h0 (by omega) (by omega) (hO.fits2 5)
  obtain ⟨pgs, j1, j2⟩ := build_I 5 e k he (by omega) hk (by omega) hT.sorted hT.ok h0 (by omega) (by omega) (hO.fits2 5)
  obtain ⟨er, e1, e2⟩ := spoilt_tr j1 j2 h hb hs 16 e0 e0 1
  unfold walkW
  rw [if_neg (by omega), e1]
  exact ⟨_, rfl, e2⟩
/-- a page with no page behind it is the root, or a chain's. -/
theorem built_last {l : List PairS} (hT : Tame 300 l) {e k : Nat} (he : 1 ≤ e) (hk : 2 ≤ k) (hk2 : k ≤ 4) (he2 : e ≤ 3) (h0 : l ≠ []) {R : Int → Int → Option ByteArray} (hR : FitsR (buildA 5 e k l).1 5 R) (hb : b + 1 = 2 + (buildA 5 e k l).1.length) (h1 : b ≠ (buildA 5 e k l).2.1) : nodeV (buildA 5 e k l).1 b = none := by
  have hf := hT.few 5 e k he hk
  have := hT.len
  obtain ⟨pgs, j1, j2⟩ := build_I 5 e k he (by omega) hk (by omega) hT.sorted hT.ok h0 (by omega) (by omega) hR
  have hin : ∀ x, x ∈ pgs ↔ 2 ≤ x ∧ x < 2 + (buildA 5 e k l).1.length := fun x => by rw [j2.mem_iff, List.mem_range'_1]
  have hr := (hin _).1 j1.head
  rcases j1.last with h | h
  · exact h b ((hin b).2 (by omega)) h1
  · have := h b ((hin b).2 (by omega))
    omega
end
end Go.Proofs.YtepafbokbfcbgaaGreatDoor
