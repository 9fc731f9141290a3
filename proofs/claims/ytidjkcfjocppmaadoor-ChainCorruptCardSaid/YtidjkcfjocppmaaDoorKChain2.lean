/- chain.giveAll, takeAll. -/
import Derived.Test.YtidjkcfjocppmaaDoorKChainA
namespace Go.Proofs.YtidjkcfjocppmaaDoor
open Go.RowKit
section
variable {P P' F F' : Nat → Prop} {ad : Nat → Addr} {w w' : World} {c s : Nat} {G G' : GA} {l l' : List Nat}
set_option maxRecDepth 100000 in
theorem giveAll_ok (hL : Env F ad w) (hP : ∀ k, P k → F k) (h : PgR F w P c s G l) (gen : Nat) (iv : Value) (ids : List Nat) (hi : Sl P w 1 encN iv ids) (hok : giveOk l ids) :
    Calls Tryd.prog 42 #[pgV c s gen, iv] w (PgDone F P ad w c s (giveG G ids) (giveL l ids) (fun _ _ e => e = .returned .nilIface)) := by
  unfold pgV
  obtain ⟨a, cap, rfl, i1, i2, i3, i4⟩ := _root_.id hi
  unfold maxLen at i2
  have m0 : Ext w (w.alloc (.cells #[.pointer (some ⟨c, 0, none⟩), .pointer (some ⟨s, 0, none⟩), .int .u64 (gen : Int)] 29)) := (Mods.refl _ w).alloc _
  have HN0 : Hid (¬ P w.heap.size) := Lib.hid (fun f => by have := h.bd _ f; omega)
  have HB0 := Lib.hid (Blk.new w #[.pointer (some ⟨c, 0, none⟩), .pointer (some ⟨s, 0, none⟩), .int .u64 (gen : Int)] 29)
  have HX0 := Lib.hid (Nxt.ext hL hP m0)
  have HG0 := Lib.hid (h.at m0)
  have HI0 := Lib.hid hi
  have HOK := Lib.hid hok
  have HZ : Hid (w.heap.size < (w.alloc (.cells #[.pointer (some ⟨c, 0, none⟩), .pointer (some ⟨s, 0, none⟩), .int .u64 (gen : Int)] 29)).heap.size) := Lib.hid (by simp)
  obtain ⟨n, hn⟩ : ∃ n, n = ids.length := ⟨_, rfl⟩
  rw [← hn] at i1 i3 ⊢
  have HN := Lib.hid hn
  have H4 := Lib.hid i4
  clear hL hP h hi m0 i4 hok hn
  go_enter Tryd.func42, Tryd.ntmps42
  go_wp2_with fail
  go_loopg [10] n (fun m v wr => ∃ (k : Nat) (P1 F1 : Nat → Prop), k + m = n ∧ v = .int .i64 k ∧ Hid (PgR F1 wr P1 c s (giveG G (ids.take k)) (giveL l (ids.take k)) ∧ Nxt P P1 F F1 ad w wr ∧ Blk wr w.heap.size #[.pointer (some ⟨c, 0, none⟩), .pointer (some ⟨s, 0, none⟩), .int .u64 (gen : Int)] 29 ∧ ¬ P1 w.heap.size))
  case atStart => exact ⟨0, P, F, by omega, rfl, Lib.hid ⟨HG0.out, HX0.out, HB0.out, HN0.out⟩⟩
  case round =>
    obtain ⟨k, P1, F1, hk, rfl, HW⟩ := hrel
    by_cases hlt : k < n
    · obtain ⟨hW1, hW2, hW3, hW4⟩ := HW.out
      obtain ⟨id, hid⟩ : ∃ id, ids[k]? = some id := ⟨_, List.getElem?_eq_getElem (by rw [← HN.out]; exact hlt)⟩
      obtain ⟨b, off, ha, hb, hF, hc⟩ := Sl.at (G := P) H4.out hW2.stp.mods (fun _ _ h => h) k (by rw [← HN.out]; exact hlt)
      subst ha
      have c0 := hc 0 (.int .i64 (id : Int)) (by have := (List.getElem?_eq_some_iff.1 hid).2; rw [this]; rfl)
      simp only [Nat.mul_one, Nat.add_zero] at c0
      have r0 := hW3.cell (o := 0) (v := .pointer (some ⟨c, 0, none⟩)) rfl
      have r1 := hW3.cell (o := 1) (v := .pointer (some ⟨s, 0, none⟩)) rfl
      have HID := Lib.hid hid
      have HT : Hid (ids.take (k + 1) = ids.take k ++ [id]) := Lib.hid (take_one _ _ _ hid)
      have HGV : Hid ((spGive (giveL l (ids.take k)) id).2 = none) := Lib.hid (giveOk_at ids l k id HOK.out hid)
      have h1 : (0 : Int) ≤ (k : Int) := by omega
      have h2 : (k : Int) < (n : Int) := by omega
      clear hid hc hW1 hW2 hW3 hW4
      go_wp2_with fail
      refine (pgGive HW.out.2.1.env HW.out.2.1.sub HW.out.1 id).mono ?_
      rintro e w2 ⟨P2, F2, hG2, hN2, ev, rfl, hE⟩
      rw [HGV.out] at hE
      cases hE
      have HG2 := Lib.hid hG2
      have HN2 := Lib.hid hN2
      have HB2 := Lib.hid (hN2.blk HW.out.2.2.1 HW.out.2.2.2)
      have HP2 : Hid (¬ P2 w.heap.size) := Lib.hid (hN2.not HW.out.2.2.1.lt HW.out.2.2.2)
      have s0 := HB2.out.cell (o := 0) (v := .pointer (some ⟨c, 0, none⟩)) rfl
      clear hG2 hN2 r0 r1 c0
      go_wp2_with fail
      refine (pgDrop HN2.out.env HN2.out.sub HG2.out id).mono ?_
      rintro e w3 ⟨P3, F3, hG3, hN3, bb, rfl⟩
      have HNX : Hid (PgR F3 w3 P3 c s (giveG G (ids.take (k + 1))) (giveL l (ids.take (k + 1))) ∧ Nxt P P3 F F3 ad w w3 ∧ Blk w3 w.heap.size #[.pointer (some ⟨c, 0, none⟩), .pointer (some ⟨s, 0, none⟩), .int .u64 (gen : Int)] 29 ∧ ¬ P3 w.heap.size) := Lib.hid (by
        rw [HT.out, giveG_snoc, giveL_snoc]
        exact ⟨hG3, (HW.out.2.1.trans HN2.out).trans hN3, hN3.blk HB2.out HP2.out, hN3.not HB2.out.lt HP2.out⟩)
      clear hG3 hN3 s0
      go_wp2_with fail
      go_roundg (gk - 1)
      case measure => omega
      case rel => exact ⟨k + 1, P3, F3, by omega, by go_num, HNX⟩
    · go_wp2_with fail
      go_ret
      have hT : ids.take k = ids := List.take_of_length_le (by have := HN.out; omega)
      have hW := HW.out
      rw [hT] at hW
      exact ⟨P1, F1, hW.1, hW.2.1, rfl⟩
theorem spGive_set {l : List Nat} {i x id : Nat} (h : id ≠ i) : spGive (l.set i x) id = ((spGive l id).1.set i x, (spGive l id).2) := by
  unfold spGive
  have e : spCheck (l.set i x) (id : Int) = spCheck l (id : Int) := by unfold spCheck; rw [List.length_set]
  rw [e]
  cases spCheck l (id : Int) with
  | some e => rfl
  | none =>
    simp only [Int.toNat_natCast]
    rw [List.getElem?_set_ne (fun e => h e.symm)]
    split
    · simp only; rw [List.set_comm _ _ (fun e => h e.symm)]
    · split
      · simp only; rw [List.set_comm _ _ (fun e => h e.symm)]
      · rfl
theorem spGive_length (l : List Nat) (id : Int) : (spGive l id).1.length = l.length := by
  unfold spGive
  split
  · rfl
  · split
    · simp
    · split <;> simp
theorem giveL_length : ∀ (a l : List Nat), (giveL l a).length = l.length
  | [], _ => rfl
  | x :: a, l => by rw [giveL, giveL_length a, spGive_length]
theorem giveL_set : ∀ (a l : List Nat) (i x : Nat), i ∉ a → giveL (l.set i x) a = (giveL l a).set i x
  | [], _, _, _, _ => rfl
  | y :: a, l, i, x, h => by
    have hy : y ≠ i := fun e => h (e ▸ List.mem_cons_self)
    rw [giveL, spGive_set hy, giveL_set a _ i x (fun hm => h (List.mem_cons_of_mem _ hm)), giveL]
theorem giveOk_set : ∀ (a l : List Nat) (i x : Nat), i ∉ a → giveOk l a → giveOk (l.set i x) a
  | [], _, _, _, _, _ => trivial
  | y :: a, l, i, x, h, ho => by
    have hy : y ≠ i := fun e => h (e ▸ List.mem_cons_self)
    rw [giveOk, spGive_set hy]
    exact ⟨ho.1, giveOk_set a _ i x (fun hm => h (List.mem_cons_of_mem _ hm)) ho.2⟩
theorem giveOk_snoc : ∀ (a l : List Nat) (i : Nat), giveOk l a → (spGive (giveL l a) i).2 = none → giveOk l (a ++ [i])
  | [], _, _, _, h => ⟨h, trivial⟩
  | _ :: a, _, i, ho, h => ⟨ho.1, giveOk_snoc a _ i ho.2 h⟩
theorem spGive_get {l : List Nat} {id i : Nat} (h : i ≠ id) : (spGive l id).1[i]? = l[i]? := by
  unfold spGive
  split
  · rfl
  · split
    · simp only [Int.toNat_natCast]; rw [List.getElem?_set_ne (fun e => h e.symm)]
    · split
      · simp only [Int.toNat_natCast]; rw [List.getElem?_set_ne (fun e => h e.symm)]
      · rfl
theorem giveL_get : ∀ (a l : List Nat) (i : Nat), i ∉ a → (giveL l a)[i]? = l[i]?
  | [], _, _, _ => rfl
  | y :: a, l, i, h => by
    have hy : i ≠ y := fun e => h (e ▸ List.mem_cons_self)
    rw [giveL, giveL_get a _ i (fun hm => h (List.mem_cons_of_mem _ hm)), spGive_get hy]
/-- what is fresh is free again. -/
theorem spGive_fresh {l : List Nat} {i : Nat} (h2 : 2 ≤ i) (hi : i < l.length) : spGive (l.set i 2) i = ((l.set i 2).set i 0, none) := by
  unfold spGive
  have e : spCheck (l.set i 2) (i : Int) = none := by unfold spCheck; rw [List.length_set, if_neg (by omega)]
  rw [e]
  simp only [Int.toNat_natCast]
  rw [List.getElem?_set_self hi, if_pos rfl]
theorem LocR.slP {α : Type} {w0 : World} {e : TypeId} {sz : Nat} {enc : α → List Value} {v : Value} {x : List α} (h : LocR w0 F P w e sz enc v x) (henc : ∀ y, (enc y).length = sz) (hl : x.length ≤ 140737488355328) : Sl P w sz enc v x :=
  Own.sl (F := P) ⟨h.1.1, fun g hg => (h.2 g hg).2⟩ henc hl
/-- blocks that were taken, one behind the other. -/
structure Taken (l : List Nat) (a : List Nat) (l1 : List Nat) : Prop where
  ok : giveOk l1 a
  back : giveL l1 a = l
  fresh : ∀ id ∈ a, l1[id]? = some 2
  len : l1.length = l.length
  two : ∀ id ∈ a, 2 ≤ id
  nd : a.Nodup
  same : ∀ i, i ∉ a → l1[i]? = l[i]?
theorem Taken.nil (l : List Nat) : Taken l [] l := ⟨trivial, rfl, fun _ h => by simp at h, rfl, fun _ h => by simp at h, List.nodup_nil, fun _ _ => rfl⟩
theorem spFree_at {l : List Nat} {i : Nat} (h : spFree l = some i) : l[i]? = some 0 ∧ i < l.length := by
  unfold spFree at h
  rw [List.findIdx?_eq_some_iff_getElem] at h
  obtain ⟨h1, h2, _⟩ := h
  exact ⟨by rw [List.getElem?_eq_getElem h1]; simpa using h2, h1⟩
/-- 0 and 1 are in use. -/
def spOk (l : List Nat) : Prop := l[0]? ≠ some 0 ∧ l[1]? ≠ some 0
theorem Taken.step {l a l1 : List Nat} {i : Nat} (h : Taken l a l1) (hok : spOk l) (hf : spFree l1 = some i) : Taken l (a ++ [i]) (l1.set i 2) ∧ l[i]? = some 0 := by
  obtain ⟨h0, hi⟩ := spFree_at hf
  have hia : i ∉ a := fun hm => by have := h.fresh i hm; rw [h0] at this; cases this
  have hl0 : l[i]? = some 0 := by rw [← h.back, giveL_get a l1 i hia]; exact h0
  have h2 : 2 ≤ i := by
    rcases Nat.lt_or_ge i 2 with hlt | hge
    · obtain rfl | rfl : i = 0 ∨ i = 1 := by omega
      · exact absurd hl0 hok.1
      · exact absurd hl0 hok.2
    · exact hge
  have hil : i < l.length := by rw [← h.len]; exact hi
  have e1 : giveL (l1.set i 2) a = l.set i 2 := by rw [giveL_set a l1 i 2 hia, h.back]
  have e2 := spGive_fresh (l := l) h2 hil
  refine ⟨⟨giveOk_snoc a _ i (giveOk_set a l1 i 2 hia h.ok) (by rw [e1, e2]), ?_, fun id hid => ?_, by rw [List.length_set]; exact h.len, fun id hid => ?_, ?_, fun j hj => ?_⟩, hl0⟩
  · rw [giveL_snoc, e1, e2]
    simp only
    rw [List.set_set]
    apply List.ext_getElem?
    intro j
    by_cases e : j = i
    · subst e; rw [List.getElem?_set_self hil, hl0]
    · rw [List.getElem?_set_ne (fun e' => e e'.symm)]
  · rw [List.mem_append] at hid
    rcases hid with hid | hid
    · rw [List.getElem?_set_ne (fun (e : i = id) => hia (by rw [e]; exact hid))]; exact h.fresh id hid
    · simp at hid; subst hid; rw [List.getElem?_set_self hi]
  · rw [List.mem_append] at hid
    rcases hid with hid | hid
    · exact h.two id hid
    · simp at hid; omega
  · rw [List.nodup_append]
    exact ⟨h.nd, by simp, fun x hx y hy e => by simp at hy; exact hia (by rw [← hy, ← e]; exact hx)⟩
  · rw [List.mem_append] at hj
    have : j ≠ i := fun e => hj (.inr (by simp [e]))
    rw [List.getElem?_set_ne (fun e => this e.symm)]
    exact h.same j (fun hm => hj (.inl hm))

def TakeAllDone (F P : Nat → Prop) (ad : Nat → Addr) (w : World) (c s : Nat) (G : GA) (l : List Nat) (n : Nat) (e : Ending) (w' : World) : Prop :=
  ∃ (P' F' : Nat → Prop) (G' : GA) (l' : List Nat), PgR F' w' P' c s G' l' ∧ Nxt P P' F F' ad w w' ∧
    ((∃ (ids : List Nat) (iv : Value), takeA n l = some (ids, l') ∧ Taken l ids l' ∧ ids.length = n ∧ G' = G ∧ e = .returned (.tuple #[iv, .nilIface]) ∧ Sl P' w' 1 encN iv ids) ∨
     (∃ (a : List Nat) (f : Nat), takeA n l = none ∧ l' = l ∧ G' = giveG G a ∧ (∀ id ∈ a, l[id]? = some 0) ∧ e = .returned (.tuple #[.slice none 0 0, faultV f]) ∧ ErrC F' ad w' (faultV f) [-1] 3))
theorem Nxt.slP {α : Type} {sz : Nat} {enc : α → List Value} {v : Value} {x : List α} (n : Nxt P P' F F' ad w w') (h : Sl P w sz enc v x) : Sl P' w' sz enc v x := h.step n.stp.mods (fun k hk hn h' => hn (n.stp.old k hk h'))
set_option maxRecDepth 100000 in
set_option maxHeartbeats 1000000 in
theorem takeAll_any (hL : Env F ad w) (hP : ∀ k, P k → F k) (h : PgR F w P c s G l) (gen n : Nat) (hn : n ≤ 1000) (hok : spOk l) :
    Calls Tryd.prog 39 #[pgV c s gen, .int .i64 (n : Int)] w (TakeAllDone F P ad w c s G l n) := by
  unfold pgV
  have m0 : Ext w (w.alloc (.cells #[.pointer (some ⟨c, 0, none⟩), .pointer (some ⟨s, 0, none⟩), .int .u64 (gen : Int)] 29)) := (Mods.refl _ w).alloc _
  have HN0 : Hid (¬ P w.heap.size) := Lib.hid (fun f => by have := h.bd _ f; omega)
  have HB0 := Lib.hid (Blk.new w #[.pointer (some ⟨c, 0, none⟩), .pointer (some ⟨s, 0, none⟩), .int .u64 (gen : Int)] 29)
  have HX0 := Lib.hid (Nxt.ext hL hP m0)
  have HG0 := Lib.hid (h.at m0)
  have HOK := Lib.hid hok
  clear hL hP h m0 hok
  go_enter Tryd.func39, Tryd.ntmps39
  go_wp2_with fail
  go_loopg [6, 10] n (fun m iv v wr => ∃ (k : Nat) (P1 F1 : Nat → Prop) (a l1 : List Nat), k + m = n ∧ v = .int .i64 k ∧ Hid (PgR F1 wr P1 c s G l1 ∧ Nxt P P1 F F1 ad w wr ∧ (Blk wr w.heap.size #[.pointer (some ⟨c, 0, none⟩), .pointer (some ⟨s, 0, none⟩), .int .u64 (gen : Int)] 29 ∧ ¬ P1 w.heap.size ∧ iv.ownBlock ≠ some w.heap.size) ∧
    LocR w F1 P1 wr 3 1 encN iv a ∧ Taken l a l1 ∧ takeA n l = (takeA m l1).map (fun p => (a ++ p.1, p.2)) ∧ a.length = k ∧ ∀ id ∈ a, l[id]? = some 0))
  case atStart => exact ⟨0, P, F, [], l, by omega, rfl, Lib.hid ⟨HG0.out, HX0.out, ⟨HB0.out, HN0.out, by simp [Value.ownBlock]⟩, LocR.nil _ _ _ _ _ _ _, Taken.nil l, by cases takeA n l <;> rfl, rfl, fun _ h => by simp at h⟩⟩
  case round =>
    obtain ⟨k, P1, F1, a, l1, hk, rfl, HW⟩ := hrel
    obtain ⟨ia, icap, hiv, _⟩ := HW.out.2.2.2.1.1.form
    subst hiv
    have hak : a.length = k := HW.out.2.2.2.2.2.2.1
    by_cases hlt : k < n
    · have hB := HW.out.2.2.1.1
      have r0 := hB.cell (o := 0) (v := .pointer (some ⟨c, 0, none⟩)) rfl
      have r1 := hB.cell (o := 1) (v := .pointer (some ⟨s, 0, none⟩)) rfl
      have r2 := hB.cell (o := 2) (v := .int .u64 (gen : Int)) rfl
      have HAK := Lib.hid hak
      clear hak hB
      go_wp2_with fail
      refine (pgTake HW.out.2.1.env HW.out.2.1.sub HW.out.1).mono ?_
      rintro e w2 ⟨P2, F2, hG2, hN2, ht⟩
      have HG2 := Lib.hid hG2
      have HN2 := Lib.hid hN2
      have HB2 := Lib.hid (hN2.blk HW.out.2.2.1.1 HW.out.2.2.1.2.1)
      have HP2 : Hid (¬ P2 w.heap.size) := Lib.hid (hN2.not HW.out.2.2.1.1.lt HW.out.2.2.1.2.1)
      have HLoc2 := Lib.hid (HW.out.2.2.2.1.nxt hN2)
      have s0 := HB2.out.cell (o := 0) (v := .pointer (some ⟨c, 0, none⟩)) rfl
      have s1 := HB2.out.cell (o := 1) (v := .pointer (some ⟨s, 0, none⟩)) rfl
      have s2 := HB2.out.cell (o := 2) (v := .int .u64 (gen : Int)) rfl
      have HA : Hid (a.length ≤ 1000) := Lib.hid (by have := HAK.out; omega)
      clear hG2 hN2 r0 r1 r2
      rcases ht with ⟨i, hf, hi, rfl⟩ | ⟨hf, f, rfl, hE⟩
      · have HF := Lib.hid hf
        have HTk := Lib.hid (HW.out.2.2.2.2.1.step HOK.out hf)
        have HST : Hid (spTake l1 = l1.set i 2) := Lib.hid (by unfold spTake; rw [hf])
        clear hf hi s0 s1 s2
        go_wp2_with (at_builtin; refine wpl_app2 Tryd.elI encN_ok rfl _ _ rfl w.heap.size (.slice ia a.length icap) (.slice (some ⟨w2.heap.size, 0, none⟩) 1 1) a [i] rfl rfl (HLoc2.out.1.ext ((Mods.refl _ _).alloc _)) (Sl.one (F := fun _ => False) (x := i) (t := 3) (fz := (0, 0)) (heap_at rfl) (fun f => f)) (by have := HA.out; simp; omega) (Nat.le_trans (HW.out.2.1.trans HN2.out).size (by simp)) (fun f => f) ?_; intro a' c' w4 hown hmod hat)
        have hx := (HW.out.2.1.trans HN2.out).trans (Nxt.ext HN2.out.env HN2.out.sub ((Mods.refl _ w2).alloc (.cells #[.int .i64 (i : Int)] 3)))
        have hl := HLoc2.out.ext ((Mods.refl _ w2).alloc (.cells #[.int .i64 (i : Int)] 3))
        obtain ⟨j1, j2⟩ := LocR.app hx hl hown hmod hat (Nat.le_refl _)
        have j3 := (HG2.out.at ((Mods.refl _ w2).alloc (.cells #[.int .i64 (i : Int)] 3))).app hl hmod hat (Nat.le_refl _)
        have hBn : ¬ (Value.slice ia a.length icap).ownBlock = some w.heap.size := HW.out.2.2.1.2.2
        have j4 := (HB2.out.alloc (.cells #[.int .i64 (i : Int)] 3)).mods hmod hBn
        have HNX : Hid (PgR (plusV F2 (.slice a' (a.length + [i].length) c')) w4 P2 c s G (l1.set i 2) ∧ Nxt P P2 F (plusV F2 (.slice a' (a.length + [i].length) c')) ad w w4 ∧ (Blk w4 w.heap.size #[.pointer (some ⟨c, 0, none⟩), .pointer (some ⟨s, 0, none⟩), .int .u64 (gen : Int)] 29 ∧ ¬ P2 w.heap.size ∧ (Value.slice a' (a.length + [i].length) c').ownBlock ≠ some w.heap.size) ∧
            LocR w (plusV F2 (.slice a' (a.length + [i].length) c')) P2 w4 3 1 encN (.slice a' (a.length + [i].length) c') (a ++ [i]) ∧ Taken l (a ++ [i]) (l1.set i 2) ∧ takeA n l = (takeA (gk - 1) (l1.set i 2)).map (fun p => (a ++ [i] ++ p.1, p.2)) ∧ (a ++ [i]).length = k + 1 ∧ ∀ id ∈ a ++ [i], l[id]? = some 0) := Lib.hid (by
          refine ⟨by rw [← HST.out]; exact j3, j1, ⟨j4, HP2.out, fun e => ?_⟩, j2, HTk.out.1, ?_, by simp [HAK.out], fun id hid => ?_⟩
          · rcases hat with e2 | e2
            · exact hBn (e2 ▸ e)
            · rw [e2] at e; injection e with e
              have := HB2.out.lt; simp at e; omega
          · rw [HW.out.2.2.2.2.2.1]
            obtain ⟨m, rfl⟩ : ∃ m, gk = m + 1 := ⟨gk - 1, by omega⟩
            rw [takeA, HF.out]
            simp only [Nat.add_sub_cancel]
            cases takeA m (l1.set i 2) with
            | none => rfl
            | some p => simp
          · rw [List.mem_append] at hid
            rcases hid with hid | hid
            · exact HW.out.2.2.2.2.2.2.2 id hid
            · simp at hid; subst hid; exact HTk.out.2)
        clear hown hmod hat hx hl j1 j2 j3 j4 hBn
        go_wp2_with fail
        go_roundg (gk - 1)
        case measure => omega
        case rel => exact ⟨k + 1, P2, plusV F2 (.slice a' (a.length + [i].length) c'), a ++ [i], l1.set i 2, by omega, by go_num, HNX⟩
      · have HF := Lib.hid hf
        have HE := Lib.hid hE
        have HST : Hid (spTake l1 = l1) := Lib.hid (by unfold spTake; rw [hf])
        clear hf hE
        go_wp2_with fail
        refine (giveAll_ok HN2.out.env HN2.out.sub (HST.out ▸ HG2.out) gen (.slice ia a.length icap) a (HLoc2.out.slP encN_ok.len (by have := HA.out; omega)) HW.out.2.2.2.2.1.ok).mono ?_
        rintro e w3 ⟨P3, F3, hG3, hN3, rfl⟩
        have HG3 := Lib.hid hG3
        have HN3 := Lib.hid hN3
        have HE3 := Lib.hid (hN3.errc HN2.out.sub HE.out)
        clear hG3 hN3
        go_wp2_with fail
        go_ret2
        refine ⟨P3, F3, _, _, HG3.out, (HW.out.2.1.trans HN2.out).trans HN3.out, .inr ⟨a, f, ?_, HW.out.2.2.2.2.1.back, rfl, HW.out.2.2.2.2.2.2.2, rfl, HE3.out⟩⟩
        rw [HW.out.2.2.2.2.2.1]
        obtain ⟨m, rfl⟩ : ∃ m, gk = m + 1 := ⟨gk - 1, by omega⟩
        rw [takeA, HF.out]; rfl
    · obtain rfl : gk = 0 := by omega
      have HAK := Lib.hid hak
      clear hak
      go_wp2_with fail
      go_ret2
      refine ⟨P1, F1, _, _, HW.out.1, HW.out.2.1, .inl ⟨a, .slice ia a.length icap, ?_, HW.out.2.2.2.2.1, by have := HAK.out; omega, rfl, rfl, ?_⟩⟩
      · rw [HW.out.2.2.2.2.2.1, takeA]; simp
      · exact HW.out.2.2.2.1.slP encN_ok.len (by have := HAK.out; omega)
end
end Go.Proofs.YtidjkcfjocppmaaDoor
