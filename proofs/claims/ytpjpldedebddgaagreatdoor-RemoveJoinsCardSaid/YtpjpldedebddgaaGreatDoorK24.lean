/- What a page that is seen is like: its Id, how many bytes. | space.Fresh. | The reference's pairs of any pairs; the law's, with short values. Plain. | law14.pager. | law14.tells. -/
import Derived.Test.YtpjpldedebddgaaGreatDoorK18
import Derived.Test.YtpjpldedebddgaaGreatDoorK03
import Derived.Test.YtpjpldedebddgaaGreatDoorK22
import Derived.Test.YtpjpldedebddgaaGreatDoorK21
import Derived.Test.YtpjpldedebddgaaGreatDoorK20
namespace Go.Proofs.YtpjpldedebddgaaGreatDoor
open Go.RowKit
theorem vw_ok {C : CaA} (hI : CaInv C) {id : Nat} (hid : id < C.disk.blocks) {p : PageA} (h : C.vw id = .inl p) : p.id = (id : Int) ∧ pgOk p C.disk.size := by
  unfold CaA.vw at h
  split at h
  · rename_i s hs
    injection h with h
    subst h
    have hm := List.mem_of_find?_eq_some hs
    have hh := List.find?_some hs
    obtain ⟨i, hi, e⟩ := List.getElem_of_mem hm
    have hi2 : C.slots[i]? = some s := by rw [← e]; exact List.getElem?_eq_getElem hi
    have hf : s.full = true ∧ s.page.id = (id : Int) := by
      cases hfl : s.full with
      | false => rw [not_has (.inl hfl)] at hh; cases hh
      | true =>
        by_cases e : s.page.id = (id : Int)
        · exact ⟨rfl, e⟩
        · rw [not_has (.inr e)] at hh; cases hh
    exact ⟨hf.2, (hI.page i s hi2 hf.1).2.2⟩
  · have hl := hI.len id hid
    unfold openAtP at h
    split at h
    · cases h
    · rename_i h1
      split at h
      · cases h
      · rename_i h2
        injection h with h
        subst h
        simp only [ne_eq, Decidable.not_not] at h2
        unfold openB at h1
        simp only [Bool.not_eq_false, Bool.and_eq_true, decide_eq_true_eq] at h1
        refine ⟨h2, ?_, readP_gen _⟩
        rw [← hl]
        exact h1.1
section
variable {P F : Nat → Prop} {ad : Nat → Addr} {w : World} {c s : Nat} {G : GA} {l : List Nat}
theorem PgR.page (h : PgR F w P c s G l) {id : Nat} (hid : id < G.blocks) {p : PageA} (hv : G.view id = some (.inl p)) : p.id = (id : Int) ∧ pgOk p G.size := by
  obtain ⟨d, sb, bvs, Pd, b2, C, h1, h2, h3, h4, h5, h6, h7⟩ := h
  have := vw_ok h2 (by rw [h3.blocks]; exact hid) (h3.view id _ hv)
  rw [h3.size] at this
  exact this
theorem PgR.got (h : PgR F w P c s G l) {id : Int} {p : PageA} (hv : G.get id = .inl p) : p.id = id ∧ pgOk p G.size ∧ p.body.length ≤ 1000 := by
  unfold GA.get at hv
  split at hv
  · cases hv
  · rename_i hc
    unfold GA.check at hc
    split at hc
    · cases hc
    · rename_i hr
      split at hv
      · rename_i q hq
        injection hv with hv
        subst hv
        obtain ⟨k1, k2⟩ := h.page (id := id.toNat) (by omega) hq
        have := (pgCheck_none k2.1).2.2.2.2.2
        have := h.lim
        exact ⟨by omega, k2, by omega⟩
      · cases hv
      · cases hv
end
end Go.Proofs.YtpjpldedebddgaaGreatDoor
namespace Go.Proofs.YtpjpldedebddgaaGreatDoor
open Go.RowKit
/-- was a block taken since the last commit? -/
def spFresh (l : List Nat) (id : Int) : Bool := decide (0 ≤ id) && decide (l[id.toNat]? = some 2)
theorem Fresh_any (w : World) (b b2 : Nat) (l : List Nat) (h : SpR w b b2 l) (id : Int) :
    Calls Tryz.prog 199 #[.pointer (some ⟨b, 0, none⟩), .int .i64 id] w fun e w' => e = .returned (.bool (spFresh l id)) ∧ w = w' := by
  have c0 := h.own.cell (o := 0) (v := .slice (some ⟨b2, 0, none⟩) l.length l.length) rfl
  have hl := h.len
  have hl2 := h.len2
  by_cases h0 : 0 ≤ id
  · obtain ⟨i, rfl⟩ : ∃ i : Nat, id = i := ⟨id.toNat, by omega⟩
    by_cases h1 : i < l.length
    · obtain ⟨x, hx⟩ : ∃ x, l[i]? = some x := ⟨_, List.getElem?_eq_getElem h1⟩
      have c1 := h.row.cell (spCells_at l i x hx)
      have HR : Hid (spFresh l (i : Int) = decide (x = 2)) := Lib.hid (by
        unfold spFresh; rw [decide_eq_true (by omega), Int.toNat_natCast, hx]; simp)
      have h2 : (i : Int) < (l.length : Int) := by omega
      clear h hx h0 h1
      by_cases hx2 : x = 2
      · subst hx2
        go_enter Tryz.func199, Tryz.ntmps199
        go_wp2
        go_ret
        exact ⟨by rw [HR.out]; rfl, rfl⟩
      · rw [decide_eq_false hx2] at HR
        have hx3 : ¬ (x : Int) = 2 := by omega
        clear hx2
        go_enter Tryz.func199, Tryz.ntmps199
        go_wp2
        go_ret
        exact ⟨by rw [HR.out]; simp [hx3], rfl⟩
    · have HR : Hid (spFresh l (i : Int) = false) := Lib.hid (by
        unfold spFresh; rw [Int.toNat_natCast, List.getElem?_eq_none_iff.2 (by omega)]; simp)
      have h2 : ¬ (i : Int) < (l.length : Int) := by omega
      clear h h0 h1
      go_enter Tryz.func199, Tryz.ntmps199
      go_wp2
      go_ret
      exact ⟨by rw [HR.out]; rfl, rfl⟩
  · have HR : Hid (spFresh l id = false) := Lib.hid (by unfold spFresh; rw [decide_eq_false h0]; rfl)
    clear h
    go_enter Tryz.func199, Tryz.ntmps199
    go_wp2
    go_ret
    exact ⟨by rw [HR.out]; rfl, rfl⟩
section
variable {P F : Nat → Prop} {w : World} {c s : Nat} {G : GA} {l : List Nat}
theorem pgFresh (h : PgR F w P c s G l) (id : Int) : Calls Tryz.prog 199 #[.pointer (some ⟨s, 0, none⟩), .int .i64 id] w fun e w' => e = .returned (.bool (spFresh l id)) ∧ w = w' := by
  obtain ⟨d, sb, bvs, Pd, b2, C, h1, h2, h3, h4, h5, h6, h7⟩ := h
  exact Fresh_any w s b2 l h5 id
end
end Go.Proofs.YtpjpldedebddgaaGreatDoor
namespace Go.Proofs.YtpjpldedebddgaaGreatDoor
open Go.RowKit
/-- the empty text. -/
abbrev e0 : ByteArray := ⟨#[]⟩
def addP (acc : List PairS) (x : PairS) : List PairS := if keyB x.1 = true ∧ x.2.size ≤ 4096 then withP x.1 x.2 false acc else acc
def pairsP (l : List PairS) : List PairS := l.foldl addP []
theorem pairsP_snoc (l : List PairS) (x : PairS) : pairsP (l ++ [x]) = addP (pairsP l) x := by
  unfold pairsP; rw [List.foldl_append]; rfl
theorem withP_len (key value : ByteArray) (over : Bool) : ∀ l : List PairS, (withP key value over l).length ≤ l.length + 1
  | [] => by simp [withP]
  | x :: l => by
    have := withP_len key value over l
    unfold withP
    split
    · simp only [List.length_cons]; omega
    · split
      · split <;> simp
      · simp
theorem addP_ok {acc : List PairS} {x : PairS} (h1 : SortedP acc) (h2 : PairsOk acc) : SortedP (addP acc x) ∧ PairsOk (addP acc x) ∧ (addP acc x).length ≤ acc.length + 1 := by
  unfold addP
  split
  · rename_i hc
    refine ⟨sorted_withP h1, fun y hy => ?_, withP_len _ _ _ _⟩
    rcases mem_withP hy with rfl | hy
    · exact hc
    · exact h2 y hy
  · exact ⟨h1, h2, by omega⟩
theorem foldP_ok : ∀ (l acc : List PairS), SortedP acc → PairsOk acc → SortedP (l.foldl addP acc) ∧ PairsOk (l.foldl addP acc) ∧ (l.foldl addP acc).length ≤ acc.length + l.length
  | [], acc, h1, h2 => ⟨h1, h2, by simp⟩
  | x :: l, acc, h1, h2 => by
    obtain ⟨k1, k2, k3⟩ := addP_ok (x := x) h1 h2
    obtain ⟨j1, j2, j3⟩ := foldP_ok l (addP acc x) k1 k2
    exact ⟨j1, j2, by simp only [List.length_cons] at j3 ⊢; rw [List.foldl_cons]; omega⟩
theorem pairsP_ok (l : List PairS) : SortedP (pairsP l) ∧ PairsOk (pairsP l) ∧ (pairsP l).length ≤ l.length := by
  obtain ⟨h1, h2, h3⟩ := foldP_ok l [] List.Pairwise.nil (fun x h => by simp at h)
  exact ⟨h1, h2, by simpa [pairsP] using h3⟩
/-- a text's first n bytes. -/
def cutS (n : Nat) (v : ByteArray) : ByteArray := v.extract 0 (min v.size n)
theorem cutS_size (n : Nat) (v : ByteArray) : (cutS n v).size = min v.size n := by unfold cutS; rw [ByteArray.size_extract]; omega
theorem extract_all (v : ByteArray) : v.extract 0 v.size = v := by
  apply ByteArray.ext
  simp [ByteArray.extract, ByteArray.copySlice]
def cutP (n : Nat) (l : List PairS) : List PairS := l.map fun x => (x.1, cutS n x.2)
theorem cutP_ok {n : Nat} {l : List PairS} (h1 : SortedP l) (h2 : PairsOk l) : SortedP (cutP n l) ∧ PairsOk (cutP n l) ∧ (cutP n l).length = l.length ∧ ∀ x ∈ cutP n l, x.2.size ≤ n := by
  refine ⟨?_, fun x hx => ?_, by simp [cutP], fun x hx => ?_⟩
  · unfold SortedP cutP
    rw [List.pairwise_map]
    exact h1
  · obtain ⟨y, hy, rfl⟩ := List.mem_map.1 hx
    have := h2 y hy
    exact ⟨this.1, by simp only; rw [cutS_size]; omega⟩
  · obtain ⟨y, hy, rfl⟩ := List.mem_map.1 hx
    simp only
    rw [cutS_size]; omega
/-- the law's pairs of a shape. -/
def tameP (n : Nat) (l : List PairS) : List PairS := cutP n (pairsP (l.take 24))
structure Tame (n : Nat) (l : List PairS) : Prop where
  sorted : SortedP l
  ok : PairsOk l
  len : l.length ≤ 24
  small : ∀ x ∈ l, x.2.size ≤ n
theorem tameP_ok (n : Nat) (l : List PairS) : Tame n (tameP n l) := by
  obtain ⟨h1, h2, h3⟩ := pairsP_ok (l.take 24)
  obtain ⟨k1, k2, k3, k4⟩ := cutP_ok (n := n) h1 h2
  exact ⟨k1, k2, by unfold tameP; rw [k3]; rw [List.length_take] at h3; omega, k4⟩
theorem Tame.few {l : List PairS} (h : Tame 300 l) (gen e k : Nat) (he : 1 ≤ e) (hk : 2 ≤ k) : 2 + (buildA gen e k l).1.length ≤ 98 := by
  have h1 := build_len gen e k he hk l
  have h2 := sum_small h.small
  have h3 := h.len
  omega
/-- a key is there at most once: its pair is found. -/
theorem find_mem {l : List PairS} (hs : SortedP l) {x : PairS} (hx : x ∈ l) : findP x.1 l = some x.2 := by
  induction l with
  | nil => simp at hx
  | cons y l ih =>
    have h2 := List.pairwise_cons.1 hs
    rw [findP_cons]
    rcases List.mem_cons.1 hx with rfl | hx
    · rw [if_pos rfl]
    · have := h2.1 x hx
      rw [if_neg (fun e => by rw [e, ltS_irrefl] at this; cases this)]
      exact ih h2.2 hx
end Go.Proofs.YtpjpldedebddgaaGreatDoor
namespace Go.Proofs.YtpjpldedebddgaaGreatDoor
open Go.RowKit
set_option maxRecDepth 100000 in
theorem pager14_any {ad : Nat → Addr} {w : World} (hL : Env NoB ad w) (n : Nat) (h8 : 8 ≤ n) (h256 : n ≤ 256) : Calls Tryz.prog 60 #[.int .i64 (n : Int)] w (PagerG ad w n 5) := by
  have m0 : Ext w (w.alloc (.cells #[.pointer none, .pointer none, .int .u64 0] 48)) := (Mods.refl _ w).alloc _
  have HL := Lib.hid (hL.withR m0 (by simp))
  have HB0 := Lib.hid (Blk.new w #[.pointer none, .pointer none, .int .u64 0] 48)
  have HL0 := Lib.hid hL
  have HM0 := Lib.hid m0
  clear hL m0
  go_enter Tryz.func60, Tryz.ntmps60
  go_wp2_with fail
  refine (dkNew_ok n 256 h8 h256 (by omega) (by omega)).mono ?_
  rintro e w1 ⟨d, Pd, rfl, hD, hn, hm⟩
  have HN1 := Lib.hid (Nxt.of (P := NoB) (P' := Pd) HL.out (fun _ h => h.elim) ⟨hm, fun k hk h => by have := hn k h; omega, hD.bd⟩)
  have HD := Lib.hid hD
  have HB1 := Lib.hid (HB0.out.ext hm)
  have hrl := HB1.out.lt
  clear hD hn hm
  go_wp2_with fail
  refine (caNew_ok HN1.out.env (fun _ h => .inr h) HD.out 5 (by omega) (by omega)).mono ?_
  rintro e w2 ⟨c, sb, bvs, F2, rfl, hC, hN2⟩
  have HC := Lib.hid hC
  have HN2 := Lib.hid (HN1.out.trans hN2)
  have hrl2 := Nat.lt_of_lt_of_le hrl hN2.size
  clear hC hN2
  go_wp2_with fail
  refine (spNew_any n h8 h256).mono ?_
  rintro e w3 ⟨s, b2, rfl, hS, h1, h2, hm3⟩
  obtain ⟨P, F, hG, hN⟩ := PgR.made (s := s) (b2 := b2) h8 h256 (q := 5) (by omega) (by omega) HC.out HN2.out hS hm3 h1 h2
  have rb := hN.blk HB0.out (fun f => f)
  have r0 := rb.cell (o := 0) rfl
  have r1 := rb.cell (o := 1) rfl
  have r2 := rb.cell (o := 2) rfl
  have rf := rb.frozen
  have hR : ∀ k, P k → k ≠ w.heap.size := fun k hk e => by
    subst e; exact hN.stp.old _ (by simp) hk
  have mR : Mods (fun k => k = w.heap.size) w3 (((w3.setCell ⟨w.heap.size, 0, none⟩ (.pointer (some ⟨c, 0, none⟩))).setCell ⟨w.heap.size, 1, none⟩ (.pointer (some ⟨s, 0, none⟩))).setCell ⟨w.heap.size, 2, none⟩ (.int .u64 5)) := Mods.set3 (F := fun k => k = w.heap.size) (Mods.refl _ w3) (.inr rfl) _ _ _
  have hG4 := hG.plus (F' := F) mR hR (fun k hk => hN.grow k (.inr hk)) (fun _ _ h => h)
  have HG := Lib.hid hG4
  have HN : Hid (Nxt NoB P NoB F ad w _) := Lib.hid ⟨⟨(Mods.set3 (HM0.out.trans hN.stp.mods) (.inl (Nat.le_refl w.heap.size)) (.pointer (some ⟨c, 0, none⟩)) (.pointer (some ⟨s, 0, none⟩)) (.int .u64 5)), fun k hk hp => hN.stp.old k (Nat.lt_of_lt_of_le hk HM0.out.size) hp, fun k hk => Nat.lt_of_lt_of_le (hN.stp.bd k hk) mR.size⟩,
    hN.sub, fun _ h => h.elim, fun k hk hf => (hN.oldF k (Nat.lt_of_lt_of_le hk HM0.out.size) hf).elim id (fun e => by omega), hN.env.mods (mR.mono (fun k hk => hN.grow k (.inr hk)))⟩
  have HBR := Lib.hid (Blk.set3 rb (.pointer (some ⟨c, 0, none⟩)) (.pointer (some ⟨s, 0, none⟩)) (.int .u64 5))
  clear hS h1 h2 hm3 hG hN hG4 mR hR rb
  go_wp2_with fail
  refine bodyPost_ret (results_row_tmp rfl _ _ w.heap.size 48 #[.pointer (some ⟨c, 0, none⟩), .pointer (some ⟨s, 0, none⟩), .int .u64 5] _ rfl HBR.out Tryz.underlying48 rfl Tryz.pagerSize) rfl ?_
  exact ⟨c, s, P, F, rfl, HG.out, HN.out⟩
end Go.Proofs.YtpjpldedebddgaaGreatDoor
namespace Go.Proofs.YtpjpldedebddgaaGreatDoor
open Go.RowKit
attribute [local go_sem ↓] Go.wp_at_zero Go.wp_at_succ
section
variable {F : Nat → Prop} {ad : Nat → Addr} {w w' : World}
set_option maxRecDepth 100000 in
theorem tells14_any (hL : Env F ad w) (hfu : Full ad) (ev : Value) (o : Option Err) (he : ErrR F ad w ev o) (k : Nat) (hk : k < 100) : Calls Tryz.prog 64 #[ev, .int .i64 (k : Int)] w fun e w' => e = .returned (.bool (decide (codeO o = k))) ∧ w = w' := by
  have HL := Lib.hid hL
  have HFU := Lib.hid hfu
  clear hL hfu
  cases o with
  | none =>
    obtain rfl : ev = .nilIface := he
    by_cases h0 : k = 0
    · subst h0
      go_enter Tryz.func64, Tryz.ntmps64
      go_wp2_with fail
      refine (code_nil _).mono ?_
      rintro e w1 ⟨rfl, rfl⟩
      go_wp2_with fail
      go_ret
      exact ⟨rfl, rfl⟩
    · have hd : ((k : Int) == 0) = false := by rw [beq_eq_false_iff_ne]; omega
      go_enter Tryz.func64, Tryz.ntmps64
      go_wp2_with fail
      go_ret
      refine ⟨?_, rfl⟩
      have : decide (codeO none = k) = false := by rw [decide_eq_false_iff_not]; exact fun e => h0 e.symm
      rw [this]
      rfl
  | some er =>
    obtain ⟨el, ek⟩ := er
    obtain ⟨b, rfl, he⟩ := he
    have hek := he.code
    have HE := Lib.hid he
    clear he
    by_cases h0 : k = 0
    · subst h0
      go_enter Tryz.func64, Tryz.ntmps64
      go_wp2_with fail
      go_ret
      refine ⟨?_, rfl⟩
      have : decide (codeO (some (el, ek)) = 0) = false := by rw [decide_eq_false_iff_not]; show ¬ ek = 0; omega
      rw [this]
      rfl
    · have hd : ((k : Int) == 0) = false := by rw [beq_eq_false_iff_ne]; omega
      go_enter Tryz.func64, Tryz.ntmps64
      go_wp2_with fail
      refine (code_any HL.out HFU.out _ el ek HE.out).mono ?_
      rintro e w1 ⟨rfl, rfl⟩
      go_wp2_with fail
      go_ret
      refine ⟨?_, rfl⟩
      have : decide (codeO (some (el, ek)) = k) = ((ek : Int) == (k : Int)) := by
        show decide (ek = k) = _
        rw [Bool.eq_iff_iff, decide_eq_true_iff, beq_iff_eq]; omega
      rw [this]
      rfl
end
theorem tells14T {F : Nat → Prop} {ad : Nat → Addr} {w : World} {el : List Int} {k : Nat} (hL : Env F ad w) (hfu : Full ad) {f : Nat} (he : ErrC F ad w (faultV f) el k) (q : Nat) (hq : q < 100) (hk : k = q) : Calls Tryz.prog 64 #[faultV f, .int .i64 (q : Int)] w fun e w' => e = .returned (.bool true) ∧ w = w' := by
  refine (tells14_any hL hfu (faultV f) (some (el, k)) ⟨f, rfl, he⟩ q hq).mono ?_
  rintro e w' ⟨rfl, h⟩
  refine ⟨?_, h⟩
  have : decide (codeO (some (el, k)) = q) = true := decide_eq_true hk
  rw [this]
end Go.Proofs.YtpjpldedebddgaaGreatDoor
