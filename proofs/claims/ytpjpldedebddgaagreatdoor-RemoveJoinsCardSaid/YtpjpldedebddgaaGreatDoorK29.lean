/- Many pages, put one behind the other: what is known then. Plain. | A tree on a pager: what lookup.Get and lookup.Path tell of it. Plain. -/
import Derived.Test.YtpjpldedebddgaaGreatDoorK28
import Derived.Test.YtpjpldedebddgaaGreatDoorK21
import Derived.Test.YtpjpldedebddgaaGreatDoorK09
import Derived.Test.YtpjpldedebddgaaGreatDoorK24
namespace Go.Proofs.YtpjpldedebddgaaGreatDoor
open Go.RowKit
def putsG (G : GA) : List PageA → GA
  | [] => G
  | p :: l => putsG (G.put p) l
def marksS (s : List Nat) : List PageA → List Nat
  | [] => s
  | p :: l => marksS (s.set p.id.toNat 1) l
theorem putsG_snoc : ∀ (l : List PageA) (G : GA) (p : PageA), putsG G (l ++ [p]) = (putsG G l).put p
  | [], _, _ => rfl
  | _ :: l, G, p => putsG_snoc l (G.put _) p
theorem marksS_snoc : ∀ (l : List PageA) (s : List Nat) (p : PageA), marksS s (l ++ [p]) = (marksS s l).set p.id.toNat 1
  | [], _, _ => rfl
  | _ :: l, s, p => marksS_snoc l (s.set _ 1) p
theorem putsG_same : ∀ (l : List PageA) (G : GA), (putsG G l).blocks = G.blocks ∧ (putsG G l).size = G.size ∧ (putsG G l).cost = G.cost + l.length
  | [], _ => ⟨rfl, rfl, rfl⟩
  | p :: l, G => by
    obtain ⟨h1, h2, h3⟩ := putsG_same l (G.put p)
    refine ⟨h1, h2, ?_⟩
    rw [putsG, h3, List.length_cons]
    show G.cost + 1 + l.length = _
    omega
theorem putsG_far : ∀ (l : List PageA) (G : GA) (i : Nat), (∀ p ∈ l, p.id.toNat ≠ i) → (putsG G l).view i = G.view i
  | [], _, _, _ => rfl
  | p :: l, G, i, h => by
    rw [putsG, putsG_far l _ i (fun q hq => h q (List.mem_cons_of_mem _ hq))]
    exact upd_ne _ _ (fun e => h p List.mem_cons_self e.symm)
/-- pages with Ids of their own. -/
def OwnIds (l : List PageA) : Prop := l.Pairwise fun a b => a.id.toNat ≠ b.id.toNat
theorem putsG_at : ∀ (l : List PageA) (G : GA) (p : PageA), OwnIds l → p ∈ l → (putsG G l).view p.id.toNat = some (.inl p)
  | [], _, _, _, h => by simp at h
  | q :: l, G, p, ho, h => by
    have h2 := List.pairwise_cons.1 ho
    rw [putsG]
    rcases List.mem_cons.1 h with rfl | h
    · rw [putsG_far l _ _ (fun q hq e => h2.1 q hq e.symm)]
      exact upd_self _ _ _
    · exact putsG_at l _ p h2.2 h
theorem marksS_len : ∀ (l : List PageA) (s : List Nat), (marksS s l).length = s.length
  | [], _ => rfl
  | p :: l, s => by rw [marksS, marksS_len l, List.length_set]
theorem marksS_far : ∀ (l : List PageA) (s : List Nat) (i : Nat), (∀ p ∈ l, p.id.toNat ≠ i) → (marksS s l)[i]? = s[i]?
  | [], _, _, _ => rfl
  | p :: l, s, i, h => by
    rw [marksS, marksS_far l _ i (fun q hq => h q (List.mem_cons_of_mem _ hq)), List.getElem?_set_ne (h p List.mem_cons_self)]
/-- pages that can be put on a disk of n blocks of 256 bytes. -/
structure PutsOk (n : Nat) (l : List PageA) : Prop where
  own : OwnIds l
  id : ∀ p ∈ l, 2 ≤ p.id ∧ p.id < (n : Int)
  gen : ∀ p ∈ l, p.gen < 18446744073709551616
  ok : ∀ p ∈ l, pgCheck p 256 = none
theorem PutsOk.new {n : Nat} {l : List PageA} (h : PutsOk n l) (_hn : 8 ≤ n) {i : Nat} {p : PageA} (hp : l[i]? = some p) : spMark (marksS (spNew n) (l.take i)) p.id = (marksS (spNew n) (l.take (i + 1)), none) := by
  have hm := List.mem_of_getElem? hp
  obtain ⟨h1, h2⟩ := h.id p hm
  have hlen : (marksS (spNew n) (l.take i)).length = n := by rw [marksS_len]; simp [spNew]
  have hc : spCheck (marksS (spNew n) (l.take i)) p.id = none := by
    unfold spCheck
    rw [if_neg (by rw [hlen]; omega)]
  have hz : (marksS (spNew n) (l.take i))[p.id.toNat]? = some 0 := by
    rw [marksS_far]
    · unfold spNew
      rw [List.getElem?_set_ne (by omega), List.getElem?_set_ne (by omega), List.getElem?_replicate, if_pos (by omega)]
    · intro q hq
      obtain ⟨j, hj, e⟩ := List.getElem_of_mem hq
      rw [List.getElem_take] at e
      simp only [List.length_take] at hj
      obtain ⟨hi, e2⟩ := List.getElem?_eq_some_iff.1 hp
      have := List.pairwise_iff_getElem.1 h.own j i (by omega) hi (by omega)
      rw [e, e2] at this
      exact this
  unfold spMark
  rw [hc]
  simp only [hz, if_true]
  rw [take_one l i p hp, marksS_snoc]
theorem PutsOk.put {l : List PageA} {i : Nat} {p : PageA} (hp : l[i]? = some p) (G : GA) : (putsG G (l.take i)).put p = putsG G (l.take (i + 1)) := by
  rw [take_one l i p hp, putsG_snoc]
/-- pages one behind the other, from 2 on. -/
theorem onG_puts {n : Nat} (hn : n ≤ 256) {ps : List PageA} (h : ∀ (j : Nat) (p : PageA), ps[j]? = some p → p.id = ((2 + j : Nat) : Int)) (hl : 2 + ps.length ≤ n) : OwnIds ps ∧ OnG (putsG (G0 n) ps) ps := by
  have ho : OwnIds ps := List.pairwise_iff_getElem.2 (fun i j hi hj hij => by
    have h1 := h i _ (List.getElem?_eq_getElem hi)
    have h2 := h j _ (List.getElem?_eq_getElem hj)
    rw [h1, h2]
    omega)
  obtain ⟨h1, h2, _⟩ := putsG_same ps (G0 n)
  refine ⟨ho, h2, by rw [h1]; exact hn, by rw [h1]; exact hl, fun id p hp => ?_⟩
  unfold pageAt at hp
  split at hp
  · cases hp
  · have e := h _ p hp
    have e2 : id = p.id.toNat := by rw [e]; omega
    rw [e2]
    exact putsG_at ps (G0 n) p ho (List.mem_of_getElem? hp)
theorem fit_puts {n gen : Nat} (hn : n ≤ 256) (hg : gen < 18446744073709551616) {ps : List PageA} (h : ∀ (j : Nat) (p : PageA), ps[j]? = some p → PgFit gen (2 + j) p) (hl : 2 + ps.length ≤ n) : PutsOk n ps ∧ OnG (putsG (G0 n) ps) ps := by
  obtain ⟨h1, h2⟩ := onG_puts hn (fun j p hp => (h j p hp).1) hl
  have hm : ∀ p ∈ ps, ∃ j, j < ps.length ∧ PgFit gen (2 + j) p := fun p hp => by
    obtain ⟨j, hj, e⟩ := List.getElem_of_mem hp
    exact ⟨j, hj, h j p (by rw [← e]; exact List.getElem?_eq_getElem hj)⟩
  refine ⟨⟨h1, fun p hp => ?_, fun p hp => ?_, fun p hp => ?_⟩, h2⟩
  · obtain ⟨j, hj, k1, _⟩ := hm p hp
    omega
  · obtain ⟨j, hj, _, k2, _⟩ := hm p hp
    omega
  · obtain ⟨j, hj, k1, k2, k3, k4⟩ := hm p hp
    unfold pgCheck
    rw [if_neg (by decide), if_neg]
    have hk : kindB p.kind = true := by
      unfold kindB
      rcases k3 with k3 | k3 | k3 <;> rw [k3] <;> decide
    rw [hk]
    simp
    omega
/-- a block that nothing was put on can't be read. -/
theorem puts_none {n : Nat} {ps : List PageA} {i : Nat} (hi : i < n) (h : ∀ p ∈ ps, p.id.toNat ≠ i) : (putsG (G0 n) ps).knows (i : Int) ∧ ∃ l, (putsG (G0 n) ps).get (i : Int) = .inr (l, 5) := by
  obtain ⟨l, hl⟩ := open_zero (i : Int)
  have hv : (putsG (G0 n) ps).view i = some (.inr (l, 5)) := by
    rw [putsG_far ps _ i h]
    show (if i < n then some (openAtP z256 i) else none) = _
    rw [if_pos hi, hl]
  refine ⟨fun _ => ⟨_, by rw [Int.toNat_natCast]; exact hv⟩, -1 :: l, get_bad (by rw [(putsG_same ps (G0 n)).1]; exact hi) hv⟩
/-- all pages are known. -/
def GA.total (G : GA) : Prop := ∀ i, i < G.blocks → ∃ r, G.view i = some r
theorem GA.total.knows {G : GA} (h : G.total) (id : Int) : G.knows id := fun hc => by
  unfold GA.check at hc
  split at hc
  · cases hc
  · exact h _ (by omega)
theorem GA.total.walk {G : GA} (h : G.total) : ∀ (f : Nat) (id n : Int), walkOk G f id n
  | 0, _, _ => trivial
  | f + 1, id, n => by
    rw [walkOk]
    exact fun _ => ⟨h.knows id, fun x _ _ => GA.total.walk h f _ _⟩
theorem G0_total (n : Nat) : (G0 n).total := fun i hi => by
  have h : i < n := hi
  exact ⟨openAtP z256 (i : Int), by show (if i < n then some (openAtP z256 (i : Int)) else none) = _; rw [if_pos h]⟩
theorem put_total {G : GA} (h : G.total) (p : PageA) : (G.put p).total := fun i hi => by
  show ∃ r, upd G.view p.id.toNat (some (.inl p)) i = some r
  by_cases e : i = p.id.toNat
  · subst e; rw [upd_self]; exact ⟨_, rfl⟩
  · rw [upd_ne _ _ e]; exact h i hi
theorem puts_total : ∀ (ps : List PageA) {G : GA}, G.total → (putsG G ps).total
  | [], _, h => h
  | p :: ps, _, h => puts_total ps (put_total h p)
theorem GA.total.find {G : GA} (h : G.total) (key : ByteArray) : ∀ (f : Nat) (id : Int), findOk G key f id
  | 0, _ => trivial
  | f + 1, id => ⟨h.knows id, fun _ _ _ => GA.total.find h key f _⟩
theorem GA.total.value {G : GA} (h : G.total) (e : EntryA) : valueOk G e := fun _ _ _ => h.walk _ _ _
theorem GA.total.look {G : GA} (h : G.total) (root : Int) (key : ByteArray) : lookOk G root key := ⟨h.find key 16 root, fun _ _ e _ _ => h.value e⟩
theorem G0_puts_total (n : Nat) (ps : List PageA) : (putsG (G0 n) ps).total := puts_total ps (G0_total n)
end Go.Proofs.YtpjpldedebddgaaGreatDoor
namespace Go.Proofs.YtpjpldedebddgaaGreatDoor
open Go.RowKit
theorem Tr.mono {V V' : Nat → Option NodeA} {R R' : Int → Int → Option ByteArray} {lo : ByteArray} {hi : Option ByteArray} {id d : Nat} {l : List PairS} (h : Tr V R lo hi id d l) (hV : ∀ id n, V id = some n → V' id = some n) (hR : ∀ c s v, R c s = some v → R' c s = some v) : Tr V' R' lo hi id d l := by
  induction h with
  | leaf h1 h2 h3 h4 h5 h6 =>
    refine .leaf (hV _ _ h1) h2 h3 h4 (fun i e x he hx => ?_) h6
    obtain ⟨k1, k2⟩ := h5 i e x he hx
    refine ⟨k1, ?_⟩
    unfold tellsE at *
    split at k2
    · rename_i hc; rw [if_pos hc]; exact k2
    · rename_i hc; rw [if_neg hc]; exact hR _ _ _ k2
  | inner h1 h2 h3 h4 _ h6 ih => exact .inner (hV _ _ h1) h2 h3 h4 ih h6
/-- the leaf of a key, and its pairs. -/
structure LeafOf (R : Int → Int → Option ByteArray) (m : NodeA) (p : List PairS) : Prop where
  leaf : m.leaf = true
  right : rightN m = true
  len : m.entries.length = p.length
  tells : ∀ (i : Nat) (e : EntryA) (x : PairS), m.entries[i]? = some e → p[i]? = some x → e.key = x.1 ∧ tellsE R e = some x.2
theorem Tr.path {V : Nat → Option NodeA} {R : Int → Int → Option ByteArray} {lo : ByteArray} {hi : Option ByteArray} {id d : Nat} {l : List PairS} (h : Tr V R lo hi id d l) (key : ByteArray) : inB lo hi key →
    ∃ st m p, PathA V key id d st m ∧ LeafOf R m p ∧ st.length = d ∧ findP key l = findP key p := by
  induction h with
  | @leaf lo hi id n l h1 h2 h3 h4 h5 h6 => exact fun _ => ⟨_, n, l, .leaf h1 h2, ⟨h2, h3, h4, h5⟩, rfl, rfl⟩
  | @inner lo hi id n d parts h1 h2 h3 h4 h5 h6 ih =>
    intro hk
    obtain ⟨r1, r2, _⟩ := rightN_inner h3 h2
    obtain ⟨k, p, q1, q2, q3, q4⟩ := inner_find r1 r2 h4 h5 hk
    obtain ⟨st, m, p2, s1, s2, s4, s5⟩ := ih _ k p q1 q2 q3
    exact ⟨_, m, p2, .inner h1 h2 q1 s1, s2, by rw [List.length_cons, s4], q4.trans s5⟩
theorem PathA.last {V : Nat → Option NodeA} {key : ByteArray} {id d : Nat} {st : List (Nat × Nat)} {m : NodeA} (h : PathA V key id d st m) : ∃ st0 id', st = st0 ++ [(id', entAt key m.entries)] ∧ V id' = some m := by
  induction h with
  | leaf h1 h2 => exact ⟨[], _, rfl, h1⟩
  | inner h1 h2 h3 h4 ih =>
    obtain ⟨st0, id', e1, e2⟩ := ih
    exact ⟨_ :: st0, id', by rw [e1]; rfl, e2⟩
/-- what a chain reads as, if all of it is known. -/
noncomputable def GA.R2 (G : GA) (c s : Int) : Option ByteArray := open Classical in if walkOk G s.toNat c s then G.R c s else none
theorem GA.R2_some {G : GA} {c s : Int} {v : ByteArray} (h : G.R2 c s = some v) : walkOk G s.toNat c s ∧ G.R c s = some v := by
  unfold GA.R2 at h
  split at h
  · rename_i hw; exact ⟨hw, h⟩
  · cases h
theorem OnG.fits2 {G : GA} {ps : List PageA} (h : OnG G ps) (gen : Nat) : FitsR ps gen G.R2 := fun c s v hc => by
  obtain ⟨h1, h2⟩ := h.chain hc
  unfold GA.R2
  rw [if_pos h2, h1]
theorem value_tells {G : GA} {e : EntryA} {v : ByteArray} (h : tellsE G.R2 e = some v) : valueA G e = .inl v ∧ valueOk G e := by
  unfold tellsE at h
  unfold valueA valueOk
  by_cases hc : e.chain = 0
  · rw [if_pos hc] at h ⊢
    exact ⟨by rw [Option.some.inj h], fun hn => absurd hc hn⟩
  · rw [if_neg hc] at h ⊢
    obtain ⟨h1, h2⟩ := GA.R2_some h
    refine ⟨?_, fun _ _ _ => h1⟩
    unfold GA.R at h2
    split at h2
    · rename_i h3
      rw [h3]
      simp only
      rw [Option.some.inj h2]
    · cases h2
theorem inB_all (k : ByteArray) : inB e0 none k := by
  refine ⟨?_, fun h hh => by cases hh⟩
  unfold ltS
  have : e0.toList = [] := by simp [ByteArray.toList_eq]
  rw [this]
  cases k.toList <;> rfl
/-- a tree of pairs on a pager. -/
def TreeG (G : GA) (root d : Nat) (l : List PairS) : Prop :=
  (l = [] ∧ root = 0 ∧ d = 0) ∨ (2 ≤ root ∧ root < 256 ∧ d ≤ 16 ∧ Tr G.node G.R2 e0 none root d l)
theorem tree_built {G : GA} {gen e k : Nat} {l : List PairS} (hT : Tame 300 l) (he : 1 ≤ e) (he2 : e ≤ 3) (hk : 2 ≤ k) (hk2 : k ≤ 4) (h : OnG G (buildA gen e k l).1) : TreeG G (buildA gen e k l).2.1 (buildA gen e k l).2.2 l := by
  by_cases h0 : l = []
  · subst h0
    exact .inl ⟨rfl, rfl, rfl⟩
  · have hf := hT.few gen e k he hk
    have := hT.len
    obtain ⟨h1, h2, h3, h4⟩ := build_tr gen e k he (by omega) hk (by omega) hT.sorted hT.ok h0 (by omega) (by omega) (h.fits2 gen)
    exact .inr ⟨h2, h3, h4, (h1 e0 none (fun x _ => inB_all _)).mono (fun id n hn => h.node hn) (fun _ _ _ hr => hr)⟩
theorem lkCheck_ok {key : ByteArray} (h : keyB key = true) : lkCheck key = none := by unfold lkCheck; rw [if_pos h]
/-- the steps to a key, as a pager's walk. -/
def stI (st : List (Nat × Nat)) : List (Int × Nat) := st.map fun x => ((x.1 : Int), x.2)
theorem leaf_at {R : Int → Int → Option ByteArray} {m : NodeA} {p : List PairS} (h : LeafOf R m p) (key : ByteArray) : findP key p = leafTells R key m := leaf_find (rightN_leaf h.right h.leaf) h.len h.tells key
theorem LeafOf.ent {R : Int → Int → Option ByteArray} {m : NodeA} {p : List PairS} (h : LeafOf R m p) {i : Nat} {e : EntryA} (he : m.entries[i]? = some e) : ∃ v, tellsE R e = some v := by
  have hi := (List.getElem?_eq_some_iff.1 he).1
  have hp : i < p.length := by rw [← h.len]; exact hi
  exact ⟨_, (h.tells i e _ he (List.getElem?_eq_getElem hp)).2⟩
/-- what the leaf tells of a key. -/
theorem leaf_says {R : Int → Int → Option ByteArray} {m : NodeA} {p : List PairS} (h : LeafOf R m p) (key : ByteArray) :
    (entIs key m.entries = true ∧ ∃ e v, m.entries[entAt key m.entries]? = some e ∧ e.key = key ∧ tellsE R e = some v ∧ findP key p = some v) ∨ (entIs key m.entries = false ∧ findP key p = none) := by
  rw [leaf_at h]
  unfold leafTells entIs
  cases hm : m.entries[entAt key m.entries]? with
  | none => exact .inr ⟨rfl, rfl⟩
  | some e =>
    simp only
    by_cases hk : e.key = key
    · rw [if_pos hk, decide_eq_true hk]
      obtain ⟨v, hv⟩ := h.ent hm
      exact .inl ⟨rfl, e, v, rfl, hk, hv, hv⟩
    · rw [if_neg hk, decide_eq_false hk]
      exact .inr ⟨rfl, rfl⟩
theorem Tr.onG {G : GA} {root d : Nat} {l : List PairS} (h : Tr G.node G.R2 e0 none root d l) (hd : d ≤ 16) (key : ByteArray) :
    ∃ st m p, PathA G.node key root d st m ∧ LeafOf G.R2 m p ∧ st.length = d ∧ findP key l = findP key p ∧ Go.Proofs.YtpjpldedebddgaaGreatDoor.findA G key 16 [] (root : Int) = .inl (stI st, m) ∧ findOk G key 16 (root : Int) := by
  obtain ⟨st, m, p, h1, h2, h3, h4⟩ := h.path key (inB_all key)
  obtain ⟨k1, k2⟩ := h1.findA 16 [] hd (fun id n k hn hk => node_kids id n k hn hk)
  exact ⟨st, m, p, h1, h2, h3, h4, by rw [k1]; rfl, k2⟩
/-- GET. -/
theorem TreeG.look {G : GA} {root d : Nat} {l : List PairS} (h : TreeG G root d l) {key : ByteArray} (hk : keyB key = true) : lookA G (root : Int) key = .inl (findP key l) := by
  rcases h with ⟨rfl, rfl, rfl⟩ | ⟨h1, _, h2, h3⟩
  · unfold lookA
    rw [lkCheck_ok hk]
    rfl
  · obtain ⟨st, m, p, k1, k2, k3, k4, k5, k6⟩ := h3.onG h2 key
    unfold lookA
    rw [lkCheck_ok hk, k5]
    simp only
    rw [if_neg (by omega), findN_leaf k2.leaf, k4]
    rcases leaf_says k2 key with ⟨j1, e, v, j2, j3, j4, j5⟩ | ⟨j1, j2⟩
    · simp only [j1, j2, if_true, (value_tells j4).1, j5]
    · rw [j2]
      simp only [j1]
      split <;> rfl
/-- .. of a text that is no key. -/
theorem path_no (G : GA) (root : Int) {key : ByteArray} (hk : keyB key = false) : pathA G root key = .inr ([-1], 2) := by
  unfold pathA lkCheck
  rw [if_neg (by rw [hk]; simp)]
theorem look_no (G : GA) (root : Int) {key : ByteArray} (hk : keyB key = false) : lookA G root key = .inr ([-1], 2) := by
  unfold lookA lkCheck
  rw [if_neg (by rw [hk]; simp)]
/-- PATH. -/
theorem TreeG.path {G : GA} {root d : Nat} {l : List PairS} (h : TreeG G root d l) {key : ByteArray} (hk : keyB key = true) :
    (l = [] ∧ root = 0 ∧ d = 0 ∧ pathA G (root : Int) key = .inl ([], false)) ∨
    ∃ st m p, PathA G.node key root d st m ∧ LeafOf G.R2 m p ∧ st.length = d ∧ findP key l = findP key p ∧ pathA G (root : Int) key = .inl (stI st, (findP key l).isSome) := by
  rcases h with ⟨rfl, rfl, rfl⟩ | ⟨h1, _, h2, h3⟩
  · refine .inl ⟨rfl, rfl, rfl, ?_⟩
    unfold pathA
    rw [lkCheck_ok hk]
    rfl
  · obtain ⟨st, m, p, k1, k2, k3, k4, k5, k6⟩ := h3.onG h2 key
    refine .inr ⟨st, m, p, k1, k2, k3, k4, ?_⟩
    unfold pathA
    rw [lkCheck_ok hk, k5]
    simp only
    rw [if_neg (by omega), findN_leaf k2.leaf, k4]
    rcases leaf_says k2 key with ⟨j1, e, v, j2, j3, j4, j5⟩ | ⟨j1, j2⟩
    · rw [j1, j5]; rfl
    · rw [j1, j2]; rfl
end Go.Proofs.YtpjpldedebddgaaGreatDoor
