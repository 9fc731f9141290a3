/- The reference's tree is a search tree (Tr) of its pairs. Plain. | The reference's tree is a search tree, from the leaves up to the root. Plain. | How many pages the reference's tree has, and that each one fits its block. Plain. -/
import Derived.Test.YtpjpldedebddgaaGreatDoorK21
namespace Go.Proofs.YtpjpldedebddgaaGreatDoor
open Go.RowKit
theorem pw_rising : ∀ {l : List ByteArray}, (l.Pairwise fun a b => ltS a b = true) → risingS l = true
  | [], _ => rfl
  | [_], _ => rfl
  | a :: b :: l, h => by
    have h1 := List.pairwise_cons.1 h
    simp only [risingS, Bool.and_eq_true]
    exact ⟨h1.1 b List.mem_cons_self, pw_rising h1.2⟩
/-- a reading of chains that fits the pages. -/
def FitsR (ps : List PageA) (gen : Nat) (R : Int → Int → Option ByteArray) : Prop := ∀ (c s : Int) (v : ByteArray), chainV ps gen c s v → R c s = some v
theorem EntOk.tells {ps : List PageA} {gen : Nat} {R : Int → Int → Option ByteArray} (hR : FitsR ps gen R) {e : EntryA} {x : PairS} (h : EntOk ps gen e x) : e.key = x.1 ∧ tellsE R e = some x.2 := by
  refine ⟨h.1, ?_⟩
  unfold tellsE
  rcases h.2 with ⟨h1, h2⟩ | ⟨h1, h2⟩
  · rw [if_pos h1, h2]
  · rw [if_neg h1]; exact hR _ _ _ h2
/-- pairs whose keys and values may be. -/
def PairsOk (l : List PairS) : Prop := ∀ x ∈ l, keyB x.1 = true ∧ x.2.size ≤ 4096
theorem leafPages_len (gen : Nat) (c : List PairS) (id : Nat) : (leafPages gen c id).length = 1 + (chunkA gen c (id + 1)).2.length := by
  unfold leafPages; rw [List.length_cons]; omega
theorem chunkA_pages (gen : Nat) : ∀ (c : List PairS) (id : Nat), (chunkA gen c id).2.length = (c.map chN).sum
  | [], _ => rfl
  | x :: r, id => by rw [chunkA, List.length_append, chPages_len, chunkA_pages gen r, List.map_cons, List.sum_cons]
theorem leaf_tr {gen : Nat} {c : List PairS} {pre post : List PageA} {R : Int → Int → Option ByteArray} (hR : FitsR (pre ++ (leafPages gen c (2 + pre.length) ++ post)) gen R) (hs : SortedP c) (hk : PairsOk c) (hc : c.length ≤ 65535)
    (hb : 2 + pre.length + (leafPages gen c (2 + pre.length)).length ≤ 256) {lo : ByteArray} {hi : Option ByteArray} (hB : ∀ x ∈ c, inB lo hi x.1) :
    Tr (nodeV (pre ++ (leafPages gen c (2 + pre.length) ++ post))) R lo hi (2 + pre.length) 1 c := by
  obtain ⟨n, hn⟩ : ∃ n : NodeA, n = ⟨true, (chunkA gen c (2 + pre.length + 1)).1, [], []⟩ := ⟨_, rfl⟩
  have hlen := leafPages_len gen c (2 + pre.length)
  have hpl := chunkA_pages gen c (2 + pre.length + 1)
  have hkeys := chunkA_keys gen c (2 + pre.length + 1)
  have hr : rightN n = true := by
    rw [hn]
    unfold rightN
    simp only [if_true, Bool.and_eq_true, decide_eq_true_eq]
    refine ⟨⟨⟨⟨chunk_right gen c _ hk (by omega) (by omega), rfl⟩, rfl⟩, ?_⟩, by rw [chunkA_len]; exact hc⟩
    rw [hkeys]
    refine pw_rising ?_
    rw [List.pairwise_map]
    exact hs
  have hp : pageAt (pre ++ (leafPages gen c (2 + pre.length) ++ post)) (2 + pre.length) = some ⟨3, ((2 + pre.length : Nat) : Int), gen, bytesN n⟩ := by
    have := pageAt_mid pre (leafPages gen c (2 + pre.length) ++ post) 0
    rw [Nat.add_zero] at this
    rw [this, hn]
    rfl
  have hV : nodeV (pre ++ (leafPages gen c (2 + pre.length) ++ post)) (2 + pre.length) = some n := by
    unfold nodeV
    rw [hp]
    simp only [if_true]
    exact (getN_iff true _ n).2 ⟨hr, by rw [hn], rfl⟩
  refine .leaf hV (by rw [hn]) hr (by rw [hn]; exact chunkA_len gen c _) (fun i e x he hx => ?_) hB
  have e1 : pre ++ (leafPages gen c (2 + pre.length) ++ post) = (pre ++ [⟨3, ((2 + pre.length : Nat) : Int), gen, bytesN n⟩]) ++ ((chunkA gen c (2 + pre.length + 1)).2 ++ post) := by
    rw [hn]; unfold leafPages; simp
  have hl1 : (pre ++ [(⟨3, ((2 + pre.length : Nat) : Int), gen, bytesN n⟩ : PageA)]).length = pre.length + 1 := by simp
  have h1 := chunk_ok gen c (pre ++ [⟨3, ((2 + pre.length : Nat) : Int), gen, bytesN n⟩]) post (fun x hx => (hk x hx).2) i e x
  rw [hl1, show 2 + (pre.length + 1) = 2 + pre.length + 1 by omega] at h1
  rw [hn] at he
  have h2 := h1 he hx
  rw [← e1] at h2
  exact h2.tells hR
/-- a level of a tree: its nodes' Ids and first keys, and what is beneath each. -/
structure LevelOk (V : Nat → Option NodeA) (R : Int → Int → Option ByteArray) (d top : Nat) (lv : List (Nat × ByteArray)) (parts : List (List PairS)) : Prop where
  len : parts.length = lv.length
  head : ∀ (i : Nat) (y : Nat × ByteArray) (p : List PairS), lv[i]? = some y → parts[i]? = some p → ∃ x r, p = x :: r ∧ x.1 = y.2
  tr : ∀ (i : Nat) (y : Nat × ByteArray) (p : List PairS), lv[i]? = some y → parts[i]? = some p → ∀ lo hi, (∀ x ∈ p, inB lo hi x.1) → Tr V R lo hi y.1 d p
  ids : ∀ y ∈ lv, 2 ≤ y.1 ∧ y.1 < top
  nd : (lv.map (·.1)).Pairwise (· < ·)
theorem LevelOk.nil (V : Nat → Option NodeA) (R : Int → Int → Option ByteArray) (d top : Nat) : LevelOk V R d top [] [] := ⟨rfl, fun i y p h => by simp at h, fun i y p h => by simp at h, fun y h => by simp at h, List.Pairwise.nil⟩
theorem LevelOk.cons {V : Nat → Option NodeA} {R : Int → Int → Option ByteArray} {d top : Nat} {lv : List (Nat × ByteArray)} {parts : List (List PairS)} (h : LevelOk V R d top lv parts) {y : Nat × ByteArray} {p : List PairS} (h1 : ∃ x r, p = x :: r ∧ x.1 = y.2)
    (h2 : ∀ lo hi, (∀ x ∈ p, inB lo hi x.1) → Tr V R lo hi y.1 d p) (h3 : 2 ≤ y.1 ∧ y.1 < top) (h4 : ∀ z ∈ lv, y.1 < z.1) : LevelOk V R d top (y :: lv) (p :: parts) := by
  refine ⟨by simp [h.len], fun i z q hz hq => ?_, fun i z q hz hq => ?_, fun z hz => ?_, ?_⟩
  · cases i with
    | zero => simp at hz hq; subst hz hq; exact h1
    | succ i => exact h.head i z q (by simpa using hz) (by simpa using hq)
  · cases i with
    | zero => simp at hz hq; subst hz hq; exact h2
    | succ i => exact h.tr i z q (by simpa using hz) (by simpa using hq)
  · rcases List.mem_cons.1 hz with rfl | hz
    · exact h3
    · exact h.ids z hz
  · rw [List.map_cons, List.pairwise_cons]
    refine ⟨fun b hb => ?_, h.nd⟩
    obtain ⟨z, hz, rfl⟩ := List.mem_map.1 hb
    exact h4 z hz
/-- the leaves. -/
theorem leaves_ok (gen many : Nat) (hm : 1 ≤ many) (hm2 : many ≤ 65535) {R : Int → Int → Option ByteArray} (all : List PageA) (hR : FitsR all gen R) : ∀ (f : Nat) (l : List PairS) (pre post : List PageA), l.length ≤ f → SortedP l → PairsOk l →
    all = pre ++ ((leavesA gen many f l (2 + pre.length)).2 ++ post) → 2 + pre.length + (leavesA gen many f l (2 + pre.length)).2.length ≤ 256 →
    ∃ parts, LevelOk (nodeV all) R 1 256 (leavesA gen many f l (2 + pre.length)).1 parts ∧ parts.flatten = l ∧ ∀ y ∈ (leavesA gen many f l (2 + pre.length)).1, 2 + pre.length ≤ y.1
  | 0, [], pre, post, _, _, _, _, _ => ⟨[], LevelOk.nil _ _ _ _, rfl, fun y hy => by simp [leavesA] at hy⟩
  | 0, _ :: _, _, _, h, _, _, _, _ => by simp at h
  | f + 1, [], pre, post, _, _, _, _, _ => ⟨[], LevelOk.nil _ _ _ _, rfl, fun y hy => by simp [leavesA] at hy⟩
  | f + 1, x :: l, pre, post, hf, hs, hk, he, hb => by
    obtain ⟨c, hc⟩ : ∃ c, c = (x :: l).take many := ⟨_, rfl⟩
    obtain ⟨r, hr⟩ : ∃ r, r = (x :: l).drop many := ⟨_, rfl⟩
    have hcr : c ++ r = x :: l := by rw [hc, hr, List.take_append_drop]
    have hs2 : SortedP (c ++ r) := by rw [hcr]; exact hs
    have hsc : SortedP c := (List.pairwise_append.1 hs2).1
    have hsr : SortedP r := (List.pairwise_append.1 hs2).2.1
    have hkc : PairsOk c := fun z hz => hk z (by rw [← hcr]; exact List.mem_append_left _ hz)
    have hkr : PairsOk r := fun z hz => hk z (by rw [← hcr]; exact List.mem_append_right _ hz)
    have hcl : c.length ≤ 65535 := by rw [hc, List.length_take]; omega
    have hc0 : ∃ rr, c = x :: rr := by
      rw [hc]
      obtain ⟨q, rfl⟩ : ∃ q, many = q + 1 := ⟨many - 1, by omega⟩
      exact ⟨l.take q, rfl⟩
    have hrl : r.length ≤ f := by
      rw [hr, List.length_drop, List.length_cons]
      simp at hf; omega
    obtain ⟨L, hL⟩ : ∃ L, L = leavesA gen many f r (2 + pre.length + (leafPages gen c (2 + pre.length)).length) := ⟨_, rfl⟩
    have hdef : leavesA gen many (f + 1) (x :: l) (2 + pre.length) = ((2 + pre.length, x.1) :: L.1, leafPages gen c (2 + pre.length) ++ L.2) := by
      rw [leavesA, hL, hc, hr]
    rw [hdef] at he hb ⊢
    simp only at he hb ⊢
    rw [List.length_append] at hb
    have hpl : (pre ++ leafPages gen c (2 + pre.length)).length = pre.length + (leafPages gen c (2 + pre.length)).length := List.length_append
    have ih := leaves_ok gen many hm hm2 all hR f r (pre ++ leafPages gen c (2 + pre.length)) post hrl hsr hkr
    rw [hpl, show 2 + (pre.length + (leafPages gen c (2 + pre.length)).length) = 2 + pre.length + (leafPages gen c (2 + pre.length)).length by omega, ← hL] at ih
    obtain ⟨parts, h1, h2, h3⟩ := ih (by rw [he]; simp) (by omega)
    have e2 : all = pre ++ (leafPages gen c (2 + pre.length) ++ (L.2 ++ post)) := by rw [he]; simp
    have hlp := leafPages_len gen c (2 + pre.length)
    refine ⟨c :: parts, h1.cons ?_ (fun lo hi hB => ?_) ⟨by omega, by omega⟩ (fun z hz => by have := h3 z hz; omega), by rw [List.flatten_cons, h2, hcr], fun y hy => ?_⟩
    · obtain ⟨rr, hcc⟩ := hc0
      exact ⟨x, rr, hcc, rfl⟩
    · have := leaf_tr (gen := gen) (c := c) (pre := pre) (post := L.2 ++ post) (R := R) (by rw [← e2]; exact hR) hsc hkc hcl (by omega) hB
      rw [← e2] at this
      exact this
    · rcases List.mem_cons.1 hy with rfl | hy
      · exact Nat.le_refl _
      · have := h3 y hy; omega
end Go.Proofs.YtpjpldedebddgaaGreatDoor
namespace Go.Proofs.YtpjpldedebddgaaGreatDoor
open Go.RowKit
theorem heads_at {V : Nat → Option NodeA} {R : Int → Int → Option ByteArray} {d top : Nat} {lv : List (Nat × ByteArray)} {parts : List (List PairS)} (h : LevelOk V R d top lv parts) (hs : SortedP parts.flatten) {i j : Nat} {y : Nat × ByteArray} {p : List PairS} (hij : i < j) (hp : parts[i]? = some p) (hy : lv[j]? = some y) :
    ∀ x ∈ p, ltS x.1 y.2 = true := by
  have hjl := (List.getElem?_eq_some_iff.1 hy).1
  have hjp : j < parts.length := by rw [h.len]; exact hjl
  obtain ⟨x0, r, e, hx0⟩ := h.head j y parts[j] hy (List.getElem?_eq_getElem hjp)
  have h2 := (List.pairwise_flatten.1 hs).2
  obtain ⟨hip, rfl⟩ := List.getElem?_eq_some_iff.1 hp
  have h3 := List.pairwise_iff_getElem.1 h2 i j hip hjp hij
  intro x hx
  have := h3 x hx x0 (by rw [e]; exact List.mem_cons_self)
  rw [hx0] at this
  exact this
theorem head_le {V : Nat → Option NodeA} {R : Int → Int → Option ByteArray} {d top : Nat} {lv : List (Nat × ByteArray)} {parts : List (List PairS)} (h : LevelOk V R d top lv parts) (hs : SortedP parts.flatten) {i : Nat} {y : Nat × ByteArray} {p : List PairS} (hp : parts[i]? = some p) (hy : lv[i]? = some y) :
    ∀ x ∈ p, ltS x.1 y.2 = false := by
  obtain ⟨x0, r, rfl, hx0⟩ := h.head i y p hy hp
  have h2 : SortedP (x0 :: r) := (List.pairwise_flatten.1 hs).1 _ (List.mem_of_getElem? hp)
  intro x hx
  rcases List.mem_cons.1 hx with rfl | hx
  · rw [← hx0]; exact ltS_irrefl _
  · have := (List.pairwise_cons.1 h2).1 x hx
    rw [hx0] at this
    exact ltS_asymm this
/-- a node over nodes. -/
def overN (c : List (Nat × ByteArray)) : NodeA := ⟨false, [], (c.drop 1).map (·.2), c.map fun y => (y.1 : Int)⟩
theorem over_keys (c : List (Nat × ByteArray)) (i : Nat) : (overN c).keys[i]? = (c[i + 1]?).map (·.2) := by
  unfold overN
  simp only [List.getElem?_map, List.getElem?_drop]
  rw [Nat.add_comm]
theorem inner_tr {V : Nat → Option NodeA} {R : Int → Int → Option ByteArray} {d : Nat} {c : List (Nat × ByteArray)} {parts : List (List PairS)} (h : LevelOk V R d 256 c parts) (hs : SortedP parts.flatten) (hk : PairsOk parts.flatten) (h2 : 2 ≤ c.length) (h256 : c.length ≤ 256) {id : Nat} (hV : getN false (bytesN (overN c)) = some (overN c) → V id = some (overN c)) {lo : ByteArray} {hi : Option ByteArray} (hB : ∀ x ∈ parts.flatten, inB lo hi x.1) :
    Tr V R lo hi id (d + 1) parts.flatten := by
  have hmem : ∀ (i : Nat) (y : Nat × ByteArray), c[i]? = some y → ∃ x ∈ parts.flatten, x.1 = y.2 := fun i y hy => by
    have hi := (List.getElem?_eq_some_iff.1 hy).1
    have hip : i < parts.length := by rw [h.len]; exact hi
    obtain ⟨x, r, e, hx⟩ := h.head i y parts[i] hy (List.getElem?_eq_getElem hip)
    exact ⟨x, List.mem_flatten.2 ⟨parts[i], List.getElem_mem hip, by rw [e]; exact List.mem_cons_self⟩, hx⟩
  have hkey : ∀ s ∈ (overN c).keys, ∃ x ∈ parts.flatten, x.1 = s := fun s hsm => by
    obtain ⟨i, hi, e⟩ := List.getElem_of_mem hsm
    have := over_keys c i
    rw [List.getElem?_eq_getElem hi, e] at this
    obtain ⟨y, hy, hys⟩ := Option.map_eq_some_iff.1 this.symm
    obtain ⟨x, hx, hxy⟩ := hmem (i + 1) y hy
    exact ⟨x, hx, hxy.trans hys⟩
  have hr : rightN (overN c) = true := by
    unfold rightN
    rw [if_neg (by simp [overN])]
    simp only [Bool.and_eq_true, decide_eq_true_eq, List.all_eq_true]
    refine ⟨⟨⟨⟨⟨⟨⟨rfl, by simp [overN]; exact h2⟩, by simp [overN]; omega⟩, by simp [overN]; exact h256⟩, fun k hkm => ?_⟩, ?_⟩, fun s hsm => ?_⟩, pw_rising ?_⟩
    · obtain ⟨y, hy, rfl⟩ := List.mem_map.1 hkm
      have := h.ids y hy
      simp [kidB]; omega
    · show ((c.map fun y => (y.1 : Int))).Nodup
      have := h.nd
      rw [List.pairwise_map] at this
      refine List.pairwise_map.2 (this.imp (fun {a b} hab e => ?_))
      omega
    · obtain ⟨x, hx, rfl⟩ := hkey s hsm
      exact (hk x hx).1
    · refine List.pairwise_iff_getElem.2 (fun i j hi hj hij => ?_)
      have a1 := over_keys c i
      have a2 := over_keys c j
      rw [List.getElem?_eq_getElem hi] at a1
      rw [List.getElem?_eq_getElem hj] at a2
      obtain ⟨y, hy, hys⟩ := Option.map_eq_some_iff.1 a1.symm
      obtain ⟨z, hz, hzs⟩ := Option.map_eq_some_iff.1 a2.symm
      have hyl := (List.getElem?_eq_some_iff.1 hy).1
      have hip : i + 1 < parts.length := by rw [h.len]; exact hyl
      obtain ⟨x, r, e, hx⟩ := h.head (i + 1) y parts[i + 1] hy (List.getElem?_eq_getElem hip)
      have := heads_at h hs (i := i + 1) (j := j + 1) (by omega) (List.getElem?_eq_getElem hip) hz x (by rw [e]; exact List.mem_cons_self)
      rw [← hys, ← hzs, ← hx]
      exact this
  have hVn := hV ((getN_iff false _ (overN c)).2 ⟨hr, rfl, rfl⟩)
  refine .inner hVn rfl hr (by rw [h.len]; simp [overN]) (fun i k p hki hpi => ?_) (fun s hsm => ?_)
  · have hki2 : (c.map fun y => (y.1 : Int))[i]? = some k := hki
    rw [List.getElem?_map] at hki2
    obtain ⟨y, hy, rfl⟩ := Option.map_eq_some_iff.1 hki2
    rw [Int.toNat_natCast]
    refine h.tr i y p hy hpi _ _ (fun x hx => ⟨?_, fun q hq => ?_⟩)
    · unfold loAt
      by_cases h0 : i = 0
      · rw [if_pos h0]
        exact (hB x (List.mem_flatten.2 ⟨p, List.mem_of_getElem? hpi, hx⟩)).1
      · rw [if_neg h0]
        have hkk := over_keys c (i - 1)
        rw [show i - 1 + 1 = i by omega, hy] at hkk
        have e : (overN c).keys.getD (i - 1) lo = y.2 := by simp [List.getD, hkk]
        rw [e]
        exact head_le h hs hpi hy x hx
    · unfold hiAt at hq
      rw [over_keys] at hq
      cases hz : c[i + 1]? with
      | none =>
        rw [hz] at hq
        exact (hB x (List.mem_flatten.2 ⟨p, List.mem_of_getElem? hpi, hx⟩)).2 q hq
      | some z =>
        rw [hz] at hq
        simp only [Option.map_some, Option.some.injEq] at hq
        subst hq
        exact heads_at h hs (i := i) (j := i + 1) (by omega) hpi hz x hx
  · obtain ⟨x, hx, rfl⟩ := hkey s hsm
    exact hB x hx
theorem LevelOk.split {V : Nat → Option NodeA} {R : Int → Int → Option ByteArray} {d top : Nat} {lv : List (Nat × ByteArray)} {parts : List (List PairS)} (h : LevelOk V R d top lv parts) (k : Nat) : LevelOk V R d top (lv.take k) (parts.take k) ∧ LevelOk V R d top (lv.drop k) (parts.drop k) := by
  have hat : ∀ {α : Type} (l : List α) (i : Nat) (a : α), (l.take k)[i]? = some a → l[i]? = some a := fun l i a ha => by
    have := (List.getElem?_eq_some_iff.1 ha).1
    rw [List.length_take] at this
    rw [List.getElem?_take_of_lt (by omega)] at ha
    exact ha
  refine ⟨⟨by simp [h.len], fun i y p hy hp => h.head i y p (hat _ _ _ hy) (hat _ _ _ hp), fun i y p hy hp => h.tr i y p (hat _ _ _ hy) (hat _ _ _ hp), fun y hy => h.ids y (List.mem_of_mem_take hy), ?_⟩,
    ⟨by simp [h.len], fun i y p hy hp => h.head (k + i) y p (by rw [List.getElem?_drop] at hy; exact hy) (by rw [List.getElem?_drop] at hp; exact hp), fun i y p hy hp => h.tr (k + i) y p (by rw [List.getElem?_drop] at hy; exact hy) (by rw [List.getElem?_drop] at hp; exact hp), fun y hy => h.ids y (List.mem_of_mem_drop hy), ?_⟩⟩
  · rw [List.map_take]; exact h.nd.sublist (List.take_sublist _ _)
  · rw [List.map_drop]; exact h.nd.sublist (List.drop_sublist _ _)
theorem grp_le (many n : Nat) (hm : 2 ≤ many) (hn : 2 ≤ n) : 2 ≤ grp many n ∧ grp many n ≤ n ∧ grp many n ≤ many + 1 ∧ n - grp many n ≠ 1 := by
  unfold grp
  split <;> omega
/-- the nodes over a level. -/
theorem above_ok (gen many : Nat) (hm : 2 ≤ many) (hm2 : many ≤ 200) {R : Int → Int → Option ByteArray} (all : List PageA) {d : Nat} : ∀ (f : Nat) (lv : List (Nat × ByteArray)) (parts : List (List PairS)) (pre post : List PageA), lv.length ≤ f → lv.length ≠ 1 → LevelOk (nodeV all) R d 256 lv parts → SortedP parts.flatten → PairsOk parts.flatten →
    all = pre ++ ((aboveA gen many f lv (2 + pre.length)).2 ++ post) → 2 + pre.length + (aboveA gen many f lv (2 + pre.length)).2.length ≤ 256 →
    ∃ parts', LevelOk (nodeV all) R (d + 1) 256 (aboveA gen many f lv (2 + pre.length)).1 parts' ∧ parts'.flatten = parts.flatten ∧ (∀ y ∈ (aboveA gen many f lv (2 + pre.length)).1, 2 + pre.length ≤ y.1) ∧ 2 * (aboveA gen many f lv (2 + pre.length)).1.length ≤ lv.length ∧ (lv ≠ [] → (aboveA gen many f lv (2 + pre.length)).1 ≠ [])
  | 0, [], parts, pre, post, _, _, h, _, _, _, _ => by
    have : parts = [] := List.length_eq_zero_iff.1 (by rw [h.len]; rfl)
    subst this
    exact ⟨[], LevelOk.nil _ _ _ _, rfl, fun y hy => by simp [aboveA] at hy, by simp [aboveA], fun h => absurd rfl h⟩
  | 0, _ :: _, _, _, _, h, _, _, _, _, _, _ => by simp at h
  | f + 1, [], parts, pre, post, _, _, h, _, _, _, _ => by
    have : parts = [] := List.length_eq_zero_iff.1 (by rw [h.len]; rfl)
    subst this
    exact ⟨[], LevelOk.nil _ _ _ _, rfl, fun y hy => by simp [aboveA] at hy, by simp [aboveA], fun h => absurd rfl h⟩
  | f + 1, y :: l, parts, pre, post, hf, h1, h, hs, hk, he, hb => by
    have hn : 2 ≤ l.length + 1 := by
      have : (y :: l).length = l.length + 1 := rfl
      omega
    obtain ⟨g1, g2, g3, g4⟩ := grp_le many (l.length + 1) hm hn
    obtain ⟨k, hkk⟩ : ∃ k, k = grp many (l.length + 1) := ⟨_, rfl⟩
    rw [← hkk] at g1 g2 g3 g4
    obtain ⟨L, hL⟩ : ∃ L, L = aboveA gen many f ((y :: l).drop k) (2 + pre.length + 1) := ⟨_, rfl⟩
    have hdef : aboveA gen many (f + 1) (y :: l) (2 + pre.length) = ((2 + pre.length, y.2) :: L.1, innerPage gen ((y :: l).take k) (2 + pre.length) :: L.2) := by
      rw [aboveA, hL, hkk]
    rw [hdef] at he hb ⊢
    simp only [List.length_cons] at he hb ⊢
    obtain ⟨s1, s2⟩ := h.split k
    have hfl : (parts.take k).flatten ++ (parts.drop k).flatten = parts.flatten := by rw [← List.flatten_append, List.take_append_drop]
    have hs' : SortedP ((parts.take k).flatten ++ (parts.drop k).flatten) := by rw [hfl]; exact hs
    obtain ⟨t1, t2, _⟩ := List.pairwise_append.1 hs'
    have hk1 : PairsOk (parts.take k).flatten := fun z hz => hk z (by rw [← hfl]; exact List.mem_append_left _ hz)
    have hk2 : PairsOk (parts.drop k).flatten := fun z hz => hk z (by rw [← hfl]; exact List.mem_append_right _ hz)
    have hlen : ((y :: l).drop k).length = l.length + 1 - k := by rw [List.length_drop, List.length_cons]
    have hpl : (pre ++ [innerPage gen ((y :: l).take k) (2 + pre.length)]).length = pre.length + 1 := by simp
    have ih := above_ok gen many hm hm2 (R := R) all (d := d) f ((y :: l).drop k) (parts.drop k) (pre ++ [innerPage gen ((y :: l).take k) (2 + pre.length)]) post (by rw [hlen]; simp at hf; omega) (by rw [hlen]; exact g4) s2 t2 hk2
    rw [hpl, show 2 + (pre.length + 1) = 2 + pre.length + 1 by omega, ← hL] at ih
    obtain ⟨parts', p1, p2, p3, p4, _⟩ := ih (by rw [he]; simp) (by omega)
    have htl : ((y :: l).take k).length = k := by rw [List.length_take, List.length_cons]; omega
    have hpage : pageAt all (2 + pre.length) = some (innerPage gen ((y :: l).take k) (2 + pre.length)) := by
      have := pageAt_mid pre (innerPage gen ((y :: l).take k) (2 + pre.length) :: (L.2 ++ post)) 0
      rw [Nat.add_zero] at this
      rw [he]
      exact this
    refine ⟨(parts.take k).flatten :: parts', p1.cons ?_ (fun lo hi hB => inner_tr s1 t1 hk1 (by rw [htl]; exact g1) (by rw [htl]; omega) (fun hg => ?_) hB) ⟨by omega, by omega⟩ (fun z hz => by have := p3 z hz; omega), by rw [List.flatten_cons, p2, hfl], fun z hz => ?_, ?_, fun _ h0 => by cases h0⟩
    · have hp0 : 0 < parts.length := by rw [h.len]; simp
      obtain ⟨x, r, e, hx⟩ := h.head 0 y parts[0] rfl (List.getElem?_eq_getElem hp0)
      obtain ⟨q, rfl⟩ : ∃ q, k = q + 1 := ⟨k - 1, by omega⟩
      cases parts with
      | nil => simp at hp0
      | cons p ps =>
        simp at e
        subst e
        exact ⟨x, r ++ (ps.take q).flatten, by simp, hx⟩
    · unfold nodeV
      rw [hpage]
      simp only [innerPage]
      exact hg
    · rcases List.mem_cons.1 hz with rfl | hz
      · exact Nat.le_refl _
      · have := p3 z hz; omega
    · rw [hlen] at p4; omega
theorem levels_pre (gen kids : Nat) : ∀ (f d : Nat) (lv : List (Nat × ByteArray)) (ps : List PageA), ∃ rest, (levelsA gen kids f d lv ps).1 = ps ++ rest
  | 0, d, lv, ps => ⟨[], by simp [levelsA]⟩
  | f + 1, d, lv, ps => by
    rw [levelsA]
    split
    · obtain ⟨rest, h⟩ := levels_pre gen kids f (d + 1) (aboveA gen kids lv.length lv (2 + ps.length)).1 (ps ++ (aboveA gen kids lv.length lv (2 + ps.length)).2)
      exact ⟨(aboveA gen kids lv.length lv (2 + ps.length)).2 ++ rest, by rw [h, List.append_assoc]⟩
    · exact ⟨[], by simp⟩
theorem levels_ok (gen kids : Nat) (hm : 2 ≤ kids) (hm2 : kids ≤ 200) {R : Int → Int → Option ByteArray} (all : List PageA) {l : List PairS} (hs : SortedP l) (hk : PairsOk l) (hall : 2 + all.length ≤ 256) : ∀ (f d : Nat) (lv : List (Nat × ByteArray)) (parts : List (List PairS)) (ps : List PageA), lv ≠ [] → lv.length ≤ 2 ^ (16 - d) → d ≤ 16 ∧ 16 ≤ d + f → LevelOk (nodeV all) R d 256 lv parts → parts.flatten = l →
    (levelsA gen kids f d lv ps).1 = all → (∀ lo hi, (∀ x ∈ l, inB lo hi x.1) → Tr (nodeV all) R lo hi (levelsA gen kids f d lv ps).2.1 (levelsA gen kids f d lv ps).2.2 l) ∧ 2 ≤ (levelsA gen kids f d lv ps).2.1 ∧ (levelsA gen kids f d lv ps).2.1 < 256 ∧ (levelsA gen kids f d lv ps).2.2 ≤ 16 := by
  have base : ∀ (d : Nat) (lv : List (Nat × ByteArray)) (parts : List (List PairS)), lv.length = 1 → LevelOk (nodeV all) R d 256 lv parts → parts.flatten = l →
      (∀ lo hi, (∀ x ∈ l, inB lo hi x.1) → Tr (nodeV all) R lo hi (lv.headD (0, ⟨#[]⟩)).1 d l) ∧ 2 ≤ (lv.headD (0, ⟨#[]⟩)).1 ∧ (lv.headD (0, ⟨#[]⟩)).1 < 256 := by
    intro d lv parts h1 h hp
    obtain ⟨y, rfl⟩ := List.length_eq_one_iff.1 h1
    obtain ⟨p, rfl⟩ := List.length_eq_one_iff.1 (h.len.trans h1)
    have hpl : p = l := by rw [← hp]; simp
    subst hpl
    have hi := h.ids y (by simp)
    exact ⟨fun lo hi hB => h.tr 0 y p rfl rfl lo hi hB, hi.1, hi.2⟩
  intro f
  induction f with
  | zero =>
    intro d lv parts ps h0 h1 hd h hp he
    have hl1 : lv.length = 1 := by
      have : lv.length ≠ 0 := fun e => h0 (List.length_eq_zero_iff.1 e)
      have e : 16 - d = 0 := by omega
      rw [e] at h1; simp at h1; omega
    obtain ⟨b1, b2, b3⟩ := base d lv parts hl1 h hp
    exact ⟨b1, b2, b3, by show d ≤ 16; omega⟩
  | succ f ih =>
    intro d lv parts ps h0 h1 hd h hp he
    rw [levelsA] at he ⊢
    by_cases hc : 1 < lv.length ∧ d < 16
    · rw [if_pos hc] at he ⊢
      obtain ⟨rest, hr⟩ := levels_pre gen kids f (d + 1) (aboveA gen kids lv.length lv (2 + ps.length)).1 (ps ++ (aboveA gen kids lv.length lv (2 + ps.length)).2)
      have he2 : all = ps ++ ((aboveA gen kids lv.length lv (2 + ps.length)).2 ++ rest) := by rw [← he, hr, List.append_assoc]
      have hlen : 2 + ps.length + (aboveA gen kids lv.length lv (2 + ps.length)).2.length ≤ 256 := by
        have : all.length = ps.length + ((aboveA gen kids lv.length lv (2 + ps.length)).2.length + rest.length) := by rw [he2, List.length_append, List.length_append]
        omega
      obtain ⟨parts', q1, q2, q3, q4, q5⟩ := above_ok gen kids hm hm2 (R := R) all (d := d) lv.length lv parts ps rest (Nat.le_refl _) (by omega) h (by rw [hp]; exact hs) (by rw [hp]; exact hk) he2 hlen
      refine ih (d + 1) _ parts' _ (q5 h0) ?_ (by omega) q1 (q2.trans hp) he
      have e : 16 - d = (16 - (d + 1)) + 1 := by omega
      rw [e, Nat.pow_succ] at h1; omega
    · rw [if_neg hc] at he ⊢
      have hl1 : lv.length = 1 := by
        have hz : lv.length ≠ 0 := fun e => h0 (List.length_eq_zero_iff.1 e)
        by_cases h16 : d = 16
        · rw [h16] at h1; simp at h1; omega
        · omega
      obtain ⟨b1, b2, b3⟩ := base d lv parts hl1 h hp
      exact ⟨b1, b2, b3, by show d ≤ 16; omega⟩
/-- THE TREE THAT IS BUILT OF SORTED PAIRS HAS THEM. -/
theorem build_tr (gen entries kids : Nat) (he : 1 ≤ entries) (he2 : entries ≤ 65535) (hm : 2 ≤ kids) (hm2 : kids ≤ 200) {l : List PairS} (hs : SortedP l) (hk : PairsOk l) (h0 : l ≠ []) (hl : l.length ≤ 32768) (hall : 2 + (buildA gen entries kids l).1.length ≤ 256) {R : Int → Int → Option ByteArray} (hR : FitsR (buildA gen entries kids l).1 gen R) :
    (∀ lo hi, (∀ x ∈ l, inB lo hi x.1) → Tr (nodeV (buildA gen entries kids l).1) R lo hi (buildA gen entries kids l).2.1 (buildA gen entries kids l).2.2 l) ∧ 2 ≤ (buildA gen entries kids l).2.1 ∧ (buildA gen entries kids l).2.1 < 256 ∧ (buildA gen entries kids l).2.2 ≤ 16 := by
  obtain ⟨all, ha⟩ : ∃ all, all = (buildA gen entries kids l).1 := ⟨_, rfl⟩
  rw [← ha] at hall hR ⊢
  unfold buildA at ha ⊢
  rw [if_neg h0] at ha ⊢
  simp only at ha ⊢
  obtain ⟨rest, hr⟩ := levels_pre gen kids 16 1 (leavesA gen entries l.length l 2).1 (leavesA gen entries l.length l 2).2
  have he3 : all = [] ++ ((leavesA gen entries l.length l (2 + ([] : List PageA).length)).2 ++ rest) := by rw [ha, hr]; simp
  have hlen : 2 + ([] : List PageA).length + (leavesA gen entries l.length l (2 + ([] : List PageA).length)).2.length ≤ 256 := by
    have : all.length = (leavesA gen entries l.length l 2).2.length + rest.length := by rw [ha, hr, List.length_append]
    simp; omega
  obtain ⟨parts, q1, q2, q3⟩ := leaves_ok gen entries he he2 (R := R) all hR l.length l [] rest (Nat.le_refl _) hs hk he3 hlen
  simp only [List.length_nil, Nat.add_zero] at q1 q3
  have hne : (leavesA gen entries l.length l 2).1 ≠ [] := by
    intro e
    have h1 : parts = [] := List.length_eq_zero_iff.1 (by rw [q1.len, e]; rfl)
    rw [h1] at q2
    exact h0 q2.symm
  have hll : (leavesA gen entries l.length l 2).1.length ≤ 2 ^ 15 := by
    have hp : parts.length ≤ parts.flatten.length := by
      have key : ∀ (ps : List (List PairS)), (∀ p ∈ ps, p ≠ []) → ps.length ≤ ps.flatten.length := by
        intro ps
        induction ps with
        | nil => intro _; simp
        | cons p ps ih =>
          intro h
          have h1 := ih (fun q hq => h q (List.mem_cons_of_mem _ hq))
          have h2 : 0 < p.length := List.length_pos_iff.2 (h p List.mem_cons_self)
          rw [List.flatten_cons, List.length_append, List.length_cons]; omega
      refine key parts (fun p hp e => ?_)
      obtain ⟨i, hi, ei⟩ := List.getElem_of_mem hp
      have hil : i < (leavesA gen entries l.length l 2).1.length := by rw [← q1.len]; exact hi
      obtain ⟨x, r, e2, _⟩ := q1.head i _ p (List.getElem?_eq_getElem hil) (by rw [← ei]; exact List.getElem?_eq_getElem hi)
      rw [e2] at e; cases e
    rw [q2, q1.len] at hp
    omega
  exact levels_ok gen kids hm hm2 (R := R) all hs hk hall 16 1 _ parts _ hne hll (by omega) q1 q2 ha.symm
end Go.Proofs.YtpjpldedebddgaaGreatDoor
namespace Go.Proofs.YtpjpldedebddgaaGreatDoor
open Go.RowKit
theorem leaves_len (gen many : Nat) (hm : 1 ≤ many) : ∀ (f : Nat) (l : List PairS) (id : Nat), l.length ≤ f → (leavesA gen many f l id).2.length = (leavesA gen many f l id).1.length + (l.map chN).sum ∧ (leavesA gen many f l id).1.length ≤ l.length
  | 0, [], _, _ => by simp [leavesA]
  | 0, _ :: _, _, h => by simp at h
  | f + 1, [], _, _ => by simp [leavesA]
  | f + 1, x :: l, id, h => by
    have hd : ((x :: l).drop many).length ≤ f := by
      rw [List.length_drop, List.length_cons]; simp at h; omega
    obtain ⟨h1, h2⟩ := leaves_len gen many hm f ((x :: l).drop many) (id + (leafPages gen ((x :: l).take many) id).length) hd
    have hsum : ((x :: l).map chN).sum = (((x :: l).take many).map chN).sum + (((x :: l).drop many).map chN).sum := by
      rw [← List.sum_append, ← List.map_append, List.take_append_drop]
    rw [leavesA]
    simp only [List.length_append, List.length_cons]
    have hlp := leafPages_len gen ((x :: l).take many) id
    have hcp := chunkA_pages gen ((x :: l).take many) (id + 1)
    have hdl : ((x :: l).drop many).length = l.length + 1 - many := by rw [List.length_drop, List.length_cons]
    constructor
    · rw [h1, hlp, hcp, hsum]; omega
    · omega
theorem above_half (gen many : Nat) (hm : 2 ≤ many) : ∀ (f : Nat) (lv : List (Nat × ByteArray)) (id : Nat), lv.length ≤ f → lv.length ≠ 1 → 2 * (aboveA gen many f lv id).1.length ≤ lv.length ∧ (aboveA gen many f lv id).2.length = (aboveA gen many f lv id).1.length
  | 0, [], _, _, _ => by simp [aboveA]
  | 0, _ :: _, _, h, _ => by simp at h
  | f + 1, [], _, _, _ => by simp [aboveA]
  | f + 1, y :: l, id, h, h1 => by
    have hn : 2 ≤ l.length + 1 := by
      have : (y :: l).length = l.length + 1 := rfl
      omega
    obtain ⟨g1, g2, g3, g4⟩ := grp_le many (l.length + 1) hm hn
    have hlen : ((y :: l).drop (grp many (l.length + 1))).length = l.length + 1 - grp many (l.length + 1) := by rw [List.length_drop, List.length_cons]
    obtain ⟨h2, h3⟩ := above_half gen many hm f ((y :: l).drop (grp many (l.length + 1))) (id + 1) (by rw [hlen]; simp at h; omega) (by rw [hlen]; exact g4)
    rw [aboveA]
    simp only [List.length_cons]
    rw [hlen] at h2
    constructor
    · omega
    · rw [h3]
theorem levels_len (gen kids : Nat) (hm : 2 ≤ kids) : ∀ (f d : Nat) (lv : List (Nat × ByteArray)) (ps : List PageA), (levelsA gen kids f d lv ps).1.length ≤ ps.length + lv.length
  | 0, _, _, _ => by simp [levelsA]
  | f + 1, d, lv, ps => by
    rw [levelsA]
    split
    · rename_i hc
      obtain ⟨h1, h2⟩ := above_half gen kids hm lv.length lv (2 + ps.length) (Nat.le_refl _) (by omega)
      have h3 := levels_len gen kids hm f (d + 1) (aboveA gen kids lv.length lv (2 + ps.length)).1 (ps ++ (aboveA gen kids lv.length lv (2 + ps.length)).2)
      rw [List.length_append, h2] at h3
      simp only
      omega
    · simp
theorem build_len (gen entries kids : Nat) (he : 1 ≤ entries) (hm : 2 ≤ kids) (l : List PairS) : (buildA gen entries kids l).1.length ≤ 2 * l.length + (l.map chN).sum := by
  unfold buildA
  split
  · simp
  · obtain ⟨h1, h2⟩ := leaves_len gen entries he l.length l 2 (Nat.le_refl _)
    have h3 := levels_len gen kids hm 16 1 (leavesA gen entries l.length l 2).1 (leavesA gen entries l.length l 2).2
    simp only
    omega
theorem chN_small {x : PairS} (h : x.2.size ≤ 300) : chN x ≤ 2 := by
  unfold chN ndK
  split <;> omega
theorem sum_small : ∀ {l : List PairS}, (∀ x ∈ l, x.2.size ≤ 300) → (l.map chN).sum ≤ 2 * l.length
  | [], _ => by simp
  | x :: l, h => by
    have h1 := sum_small (fun y hy => h y (List.mem_cons_of_mem _ hy))
    have h2 := chN_small (h x List.mem_cons_self)
    rw [List.map_cons, List.sum_cons, List.length_cons]; omega
/-- what a page of the tree is like. -/
def PgFit (gen : Nat) (id : Nat) (p : PageA) : Prop := p.id = (id : Int) ∧ p.gen = gen ∧ (p.kind = 2 ∨ p.kind = 3 ∨ p.kind = 4) ∧ p.body.length ≤ 232
theorem bytesT_len (s : ByteArray) : (bytesT s).length = 1 + s.size := by
  unfold bytesT
  rw [List.length_append, leB_length, Array.length_toList]; rfl
theorem bytesE_len {e : EntryA} (h : rightE e = true) : (bytesE e).length ≤ 59 := by
  unfold rightE at h
  simp only [Bool.and_eq_true] at h
  have hk := (keyB_iff e.key).1 h.1
  have h2 := h.2
  unfold bytesE
  rw [List.length_append, bytesT_len]
  by_cases hc : e.chain = 0
  · rw [if_pos hc] at h2 ⊢
    simp only [Bool.and_eq_true, decide_eq_true_eq] at h2
    rw [List.length_append, leB_length, bytesT_len]; omega
  · rw [if_neg hc]
    simp only [List.length_append, leB_length]; omega
theorem flat_len {α : Type} (g : α → List UInt8) (M : Nat) : ∀ (l : List α), (∀ x ∈ l, (g x).length ≤ M) → (l.flatMap g).length ≤ M * l.length
  | [], _ => by simp
  | x :: l, h => by
    have h1 := flat_len g M l (fun y hy => h y (List.mem_cons_of_mem _ hy))
    have h2 := h x List.mem_cons_self
    rw [List.flatMap_cons, List.length_append, List.length_cons, Nat.mul_succ]; omega
theorem chPages_fit (gen : Nat) (x : PairS) (id : Nat) (h : 2 ≤ id) : ∀ (j : Nat) (p : PageA), (chPages gen x id)[j]? = some p → PgFit gen (id + j) p := fun j p hp => by
  unfold chPages at hp
  rw [List.getElem?_map] at hp
  obtain ⟨i, hi, rfl⟩ := Option.map_eq_some_iff.1 hp
  obtain ⟨hl, rfl⟩ := List.getElem?_eq_some_iff.1 hi
  simp only [List.length_range] at hl
  simp only [List.getElem_range]
  refine ⟨?_, rfl, .inr (.inr rfl), ?_⟩
  · show (((idsK (id - 2) (chN x)).getD j 0 : Nat) : Int) = _
    rw [idsK_at, if_pos hl]; omega
  · show (leB 4 _ ++ pieceB _ 228 j).length ≤ 232
    rw [List.length_append, leB_length, piece_len]; omega
theorem app_fit {gen id : Nat} {ps qs : List PageA} (h1 : ∀ (j : Nat) (p : PageA), ps[j]? = some p → PgFit gen (id + j) p) (h2 : ∀ (j : Nat) (p : PageA), qs[j]? = some p → PgFit gen (id + ps.length + j) p) : ∀ (j : Nat) (p : PageA), (ps ++ qs)[j]? = some p → PgFit gen (id + j) p := fun j p hp => by
  rcases Nat.lt_or_ge j ps.length with hj | hj
  · rw [List.getElem?_append_left hj] at hp; exact h1 j p hp
  · rw [List.getElem?_append_right hj] at hp
    have := h2 (j - ps.length) p hp
    rw [show id + ps.length + (j - ps.length) = id + j by omega] at this
    exact this
theorem chunk_fit (gen : Nat) : ∀ (c : List PairS) (id : Nat), 2 ≤ id → ∀ (j : Nat) (p : PageA), (chunkA gen c id).2[j]? = some p → PgFit gen (id + j) p
  | [], _, _, j, p, h => by simp [chunkA] at h
  | x :: r, id, hid, j, p, h => by
    rw [chunkA] at h
    refine app_fit (chPages_fit gen x id hid) ?_ j p h
    rw [chPages_len]
    exact chunk_fit gen r (id + chN x) (by omega)
theorem leaf_fit (gen : Nat) {c : List PairS} (hk : PairsOk c) (hc : c.length ≤ 3) (id : Nat) (hid : 2 ≤ id) (hb : id + 1 + (c.map chN).sum ≤ 256) : ∀ (j : Nat) (p : PageA), (leafPages gen c id)[j]? = some p → PgFit gen (id + j) p := fun j p hp => by
  unfold leafPages at hp
  cases j with
  | zero =>
    simp only [List.getElem?_cons_zero, Option.some.injEq] at hp
    subst hp
    refine ⟨rfl, rfl, .inr (.inl rfl), ?_⟩
    show (bytesN ⟨true, (chunkA gen c (id + 1)).1, [], []⟩).length ≤ 232
    unfold bytesN
    simp only [if_true]
    have h1 := chunk_right gen c (id + 1) hk (by omega) hb
    have h2 := flat_len bytesE 59 (chunkA gen c (id + 1)).1 (fun e he => bytesE_len (List.all_eq_true.1 h1 e he))
    rw [chunkA_len] at h2
    rw [List.length_append, leB_length]; omega
  | succ j =>
    have := chunk_fit gen c (id + 1) (by omega) j p (by simpa using hp)
    rw [show id + 1 + j = id + (j + 1) by omega] at this
    exact this
theorem leaves_fit (gen many : Nat) (hm : 1 ≤ many) (hm3 : many ≤ 3) : ∀ (f : Nat) (l : List PairS) (id : Nat), l.length ≤ f → PairsOk l → 2 ≤ id → id + (leavesA gen many f l id).2.length ≤ 256 → ∀ (j : Nat) (p : PageA), (leavesA gen many f l id).2[j]? = some p → PgFit gen (id + j) p
  | 0, l, id, h, _, _, _, j, p, hp => by cases l <;> simp [leavesA] at hp
  | f + 1, [], _, _, _, _, _, j, p, hp => by simp [leavesA] at hp
  | f + 1, x :: l, id, h, hk, hid, hb, j, p, hp => by
    rw [leavesA] at hp hb
    simp only [List.length_append] at hb
    have hlp := leafPages_len gen ((x :: l).take many) id
    have hcp := chunkA_pages gen ((x :: l).take many) (id + 1)
    have hd : ((x :: l).drop many).length ≤ f := by
      rw [List.length_drop, List.length_cons]; simp at h; omega
    refine app_fit (leaf_fit gen (fun z hz => hk z (List.mem_of_mem_take hz)) (by rw [List.length_take]; omega) id hid (by omega)) ?_ j p hp
    exact leaves_fit gen many hm hm3 f ((x :: l).drop many) _ hd (fun z hz => hk z (List.mem_of_mem_drop hz)) (by omega) (by omega)
theorem leaves_heads (gen many : Nat) : ∀ (f : Nat) (l : List PairS) (id : Nat), PairsOk l → ∀ y ∈ (leavesA gen many f l id).1, keyB y.2 = true
  | 0, l, id, _, y, hy => by cases l <;> simp [leavesA] at hy
  | f + 1, [], id, _, y, hy => by simp [leavesA] at hy
  | f + 1, x :: l, id, hk, y, hy => by
    rw [leavesA] at hy
    rcases List.mem_cons.1 hy with rfl | hy
    · exact (hk x List.mem_cons_self).1
    · exact leaves_heads gen many f _ _ (fun z hz => hk z (List.mem_of_mem_drop hz)) y hy
theorem bytesK_len {p : ByteArray × Int} (h : keyB p.1 = true) : (bytesK p).length ≤ 37 := by
  have hk := (keyB_iff p.1).1 h
  unfold bytesK
  rw [List.length_append, bytesT_len, leB_length]; omega
theorem inner_fit (gen : Nat) {c : List (Nat × ByteArray)} (hk : ∀ y ∈ c, keyB y.2 = true) (hc : c.length ≤ 5) (id : Nat) : PgFit gen id (innerPage gen c id) := by
  refine ⟨rfl, rfl, .inl rfl, ?_⟩
  show (bytesN (overN c)).length ≤ 232
  unfold bytesN
  rw [if_neg (by simp [overN])]
  have h2 := flat_len bytesK 37 ((overN c).keys.zip (overN c).kids.tail) (fun p hp => by
    refine bytesK_len ?_
    have := (List.of_mem_zip hp).1
    obtain ⟨y, hy, e⟩ := List.mem_map.1 this
    rw [← e]
    exact hk y (List.mem_of_mem_drop hy))
  have h3 : ((overN c).keys.zip (overN c).kids.tail).length ≤ 5 := by
    rw [List.length_zip]
    have : (overN c).keys.length ≤ c.length := by simp [overN]
    omega
  simp only [List.length_append, leB_length]
  omega
theorem above_fit (gen many : Nat) (hm : 2 ≤ many) (hm4 : many ≤ 4) : ∀ (f : Nat) (lv : List (Nat × ByteArray)) (id : Nat), lv.length ≤ f → lv.length ≠ 1 → (∀ y ∈ lv, keyB y.2 = true) → (∀ (j : Nat) (p : PageA), (aboveA gen many f lv id).2[j]? = some p → PgFit gen (id + j) p) ∧ ∀ y ∈ (aboveA gen many f lv id).1, keyB y.2 = true
  | 0, lv, id, _, _, _ => by cases lv <;> simp [aboveA]
  | f + 1, [], id, _, _, _ => by simp [aboveA]
  | f + 1, y :: l, id, h, h1, hk => by
    have hn : 2 ≤ l.length + 1 := by
      have : (y :: l).length = l.length + 1 := rfl
      omega
    obtain ⟨g1, g2, g3, g4⟩ := grp_le many (l.length + 1) hm hn
    have hlen : ((y :: l).drop (grp many (l.length + 1))).length = l.length + 1 - grp many (l.length + 1) := by rw [List.length_drop, List.length_cons]
    obtain ⟨h2, h3⟩ := above_fit gen many hm hm4 f ((y :: l).drop (grp many (l.length + 1))) (id + 1) (by rw [hlen]; simp at h; omega) (by rw [hlen]; exact g4) (fun z hz => hk z (List.mem_of_mem_drop hz))
    rw [aboveA]
    simp only
    refine ⟨fun j p hp => ?_, fun z hz => ?_⟩
    · cases j with
      | zero =>
        simp only [List.getElem?_cons_zero, Option.some.injEq] at hp
        subst hp
        exact inner_fit gen (fun z hz => hk z (List.mem_of_mem_take hz)) (by rw [List.length_take]; omega) id
      | succ j =>
        have := h2 j p (by simpa using hp)
        rw [show id + 1 + j = id + (j + 1) by omega] at this
        exact this
    · rcases List.mem_cons.1 hz with rfl | hz
      · exact hk y List.mem_cons_self
      · exact h3 z hz
theorem levels_fit (gen kids : Nat) (hm : 2 ≤ kids) (hm4 : kids ≤ 4) : ∀ (f d : Nat) (lv : List (Nat × ByteArray)) (ps : List PageA), (∀ y ∈ lv, keyB y.2 = true) → (∀ (j : Nat) (p : PageA), ps[j]? = some p → PgFit gen (2 + j) p) → ∀ (j : Nat) (p : PageA), (levelsA gen kids f d lv ps).1[j]? = some p → PgFit gen (2 + j) p
  | 0, _, _, _, _, h => by simpa [levelsA] using h
  | f + 1, d, lv, ps, hk, h => by
    rw [levelsA]
    split
    · rename_i hc
      obtain ⟨h1, h2⟩ := above_fit gen kids hm hm4 lv.length lv (2 + ps.length) (Nat.le_refl _) (by omega) hk
      exact levels_fit gen kids hm hm4 f (d + 1) _ _ h2 (app_fit h h1)
    · exact h
/-- EACH PAGE OF THE TREE FITS ITS BLOCK. -/
theorem build_fit (gen entries kids : Nat) (he : 1 ≤ entries) (he3 : entries ≤ 3) (hm : 2 ≤ kids) (hm4 : kids ≤ 4) {l : List PairS} (hk : PairsOk l) (hall : 2 + (buildA gen entries kids l).1.length ≤ 256) : ∀ (j : Nat) (p : PageA), (buildA gen entries kids l).1[j]? = some p → PgFit gen (2 + j) p := by
  unfold buildA at hall ⊢
  split
  · intro j p h; simp at h
  · rename_i h0
    rw [if_neg h0] at hall
    simp only at hall ⊢
    obtain ⟨rest, hr⟩ := levels_pre gen kids 16 1 (leavesA gen entries l.length l 2).1 (leavesA gen entries l.length l 2).2
    have hlen : 2 + (leavesA gen entries l.length l 2).2.length ≤ 256 := by
      rw [hr, List.length_append] at hall; omega
    exact levels_fit gen kids hm hm4 16 1 _ _ (leaves_heads gen entries _ _ _ hk) (leaves_fit gen entries he he3 l.length l 2 (Nat.le_refl _) hk (by omega) hlen)
end Go.Proofs.YtpjpldedebddgaaGreatDoor
