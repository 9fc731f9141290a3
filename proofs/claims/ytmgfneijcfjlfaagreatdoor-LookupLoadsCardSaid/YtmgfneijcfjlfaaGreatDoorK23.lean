/- The reference's pairs of any pairs; the law's, with short values. Plain. -/
import Derived.Test.YtmgfneijcfjlfaaGreatDoorK03
import Derived.Test.YtmgfneijcfjlfaaGreatDoorK21
namespace Go.Proofs.YtmgfneijcfjlfaaGreatDoor
open Go.RowKit
/-- the empty text. -/
abbrev e0 : ByteArray := ⟨#[]⟩
def addP (acc : List PairS) (x : PairS) : List PairS := if keyB x.1 = true ∧ x.2.size ≤ 4096 then withP x.1 x.2 false acc else acc
def pairsP (l : List PairS) : List PairS := l.foldl addP []
theorem pairsP_snoc (l : List PairS) (x : PairS) : pairsP (l ++ [x]) = addP (pairsP l) x := by
  unfold pairsP; rw [List.foldl_append]; rfl
theorem withP_len (key value : ByteArray) (over : Bool) : ∀ l : List PairS, (withP key value over l).length ≤ l.length + 1
  | [] => by simp [withP]
  | x :: l => by
    have := withP_len key value over l
    unfold withP
    split
    · simp only [List.length_cons]; omega
    · split
      · split <;> simp
      · simp
theorem addP_ok {acc : List PairS} {x : PairS} (h1 : SortedP acc) (h2 : PairsOk acc) : SortedP (addP acc x) ∧ PairsOk (addP acc x) ∧ (addP acc x).length ≤ acc.length + 1 := by
  unfold addP
  split
  · rename_i hc
    refine ⟨sorted_withP h1, fun y hy => ?_, withP_len _ _ _ _⟩
    rcases mem_withP hy with rfl | hy
    · exact hc
    · exact h2 y hy
  · exact ⟨h1, h2, by omega⟩
theorem foldP_ok : ∀ (l acc : List PairS), SortedP acc → PairsOk acc → SortedP (l.foldl addP acc) ∧ PairsOk (l.foldl addP acc) ∧ (l.foldl addP acc).length ≤ acc.length + l.length
  | [], acc, h1, h2 => ⟨h1, h2, by simp⟩
  | x :: l, acc, h1, h2 => by
    obtain ⟨k1, k2, k3⟩ := addP_ok (x := x) h1 h2
    obtain ⟨j1, j2, j3⟩ := foldP_ok l (addP acc x) k1 k2
    exact ⟨j1, j2, by simp only [List.length_cons] at j3 ⊢; rw [List.foldl_cons]; omega⟩
theorem pairsP_ok (l : List PairS) : SortedP (pairsP l) ∧ PairsOk (pairsP l) ∧ (pairsP l).length ≤ l.length := by
  obtain ⟨h1, h2, h3⟩ := foldP_ok l [] List.Pairwise.nil (fun x h => by simp at h)
  exact ⟨h1, h2, by simpa [pairsP] using h3⟩
/-- a text's first n bytes. -/
def cutS (n : Nat) (v : ByteArray) : ByteArray := v.extract 0 (min v.size n)
theorem cutS_size (n : Nat) (v : ByteArray) : (cutS n v).size = min v.size n := by unfold cutS; rw [ByteArray.size_extract]; omega
theorem extract_all (v : ByteArray) : v.extract 0 v.size = v := by
  apply ByteArray.ext
  simp [ByteArray.extract, ByteArray.copySlice]
def cutP (n : Nat) (l : List PairS) : List PairS := l.map fun x => (x.1, cutS n x.2)
theorem cutP_ok {n : Nat} {l : List PairS} (h1 : SortedP l) (h2 : PairsOk l) : SortedP (cutP n l) ∧ PairsOk (cutP n l) ∧ (cutP n l).length = l.length ∧ ∀ x ∈ cutP n l, x.2.size ≤ n := by
  refine ⟨?_, fun x hx => ?_, by simp [cutP], fun x hx => ?_⟩
  · unfold SortedP cutP
    rw [List.pairwise_map]
    exact h1
  · obtain ⟨y, hy, rfl⟩ := List.mem_map.1 hx
    have := h2 y hy
    exact ⟨this.1, by simp only; rw [cutS_size]; omega⟩
  · obtain ⟨y, hy, rfl⟩ := List.mem_map.1 hx
    simp only
    rw [cutS_size]; omega
/-- the law's pairs of a shape. -/
def tameP (n : Nat) (l : List PairS) : List PairS := cutP n (pairsP (l.take 24))
structure Tame (n : Nat) (l : List PairS) : Prop where
  sorted : SortedP l
  ok : PairsOk l
  len : l.length ≤ 24
  small : ∀ x ∈ l, x.2.size ≤ n
theorem tameP_ok (n : Nat) (l : List PairS) : Tame n (tameP n l) := by
  obtain ⟨h1, h2, h3⟩ := pairsP_ok (l.take 24)
  obtain ⟨k1, k2, k3, k4⟩ := cutP_ok (n := n) h1 h2
  exact ⟨k1, k2, by unfold tameP; rw [k3]; rw [List.length_take] at h3; omega, k4⟩
theorem Tame.few {l : List PairS} (h : Tame 300 l) (gen e k : Nat) (he : 1 ≤ e) (hk : 2 ≤ k) : 2 + (buildA gen e k l).1.length ≤ 98 := by
  have h1 := build_len gen e k he hk l
  have h2 := sum_small h.small
  have h3 := h.len
  omega
/-- a key is there at most once: its pair is found. -/
theorem find_mem {l : List PairS} (hs : SortedP l) {x : PairS} (hx : x ∈ l) : findP x.1 l = some x.2 := by
  induction l with
  | nil => simp at hx
  | cons y l ih =>
    have h2 := List.pairwise_cons.1 hs
    rw [findP_cons]
    rcases List.mem_cons.1 hx with rfl | hx
    · rw [if_pos rfl]
    · have := h2.1 x hx
      rw [if_neg (fun e => by rw [e, ltS_irrefl] at this; cases this)]
      exact ih h2.2 hx
end Go.Proofs.YtmgfneijcfjlfaaGreatDoor
