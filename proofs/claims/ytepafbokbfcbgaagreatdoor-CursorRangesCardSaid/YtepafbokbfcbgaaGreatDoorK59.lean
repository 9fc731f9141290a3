/- ref12.Range, Same. | cursor.Range, Count: what is not asked for rightly. | CursorRanges, walked. -/
import Derived.Test.YtepafbokbfcbgaaGreatDoorK58
import Derived.Test.YtepafbokbfcbgaaGreatDoorK05
import Derived.Test.YtepafbokbfcbgaaGreatDoorK51
namespace Go.Proofs.YtepafbokbfcbgaaGreatDoor
open Go.RowKit
attribute [local go_sem ↓] Go.wp_at_zero Go.wp_at_succ
def inR (from_ to_ k : ByteArray) : Bool := !ltS k from_ && belowB to_ k
/-- by definition: the pairs of a range. -/
def rangeK (from_ to_ : ByteArray) : List PairS → Nat → List PairS
  | [], _ => []
  | _, 0 => []
  | x :: r, m + 1 => if inR from_ to_ x.1 = true then x :: rangeK from_ to_ r m else rangeK from_ to_ r (m + 1)
theorem rangeK_none {from_ to_ : ByteArray} : ∀ {l : List PairS} {m : Nat}, (∀ x ∈ l, belowB to_ x.1 = false) → rangeK from_ to_ l m = []
  | [], _, _ => by simp [rangeK]
  | _ :: _, 0, _ => by simp [rangeK]
  | x :: r, m + 1, h => by
    rw [rangeK, if_neg (by unfold inR; rw [h x List.mem_cons_self]; simp), rangeK_none (fun y hy => h y (List.mem_cons_of_mem _ hy))]
theorem belowB_up {to_ a b : ByteArray} (h : belowB to_ a = false) (hab : ltS a b = true) : belowB to_ b = false := by
  unfold belowB at h ⊢
  rw [Bool.or_eq_false_iff] at h ⊢
  refine ⟨h.1, ?_⟩
  cases hc : ltS b to_ with
  | false => rfl
  | true => have := ltS_trans hab hc; rw [h.2] at this; cases this
theorem rangeK_up {from_ to_ : ByteArray} : ∀ {l : List PairS} {m : Nat}, SortedP l → (∀ x ∈ l, ltS x.1 from_ = false) → rangeK from_ to_ l m = upP to_ l m
  | [], _, _, _ => by simp [rangeK, upP]
  | _ :: _, 0, _, _ => by simp [rangeK, upP]
  | x :: r, m + 1, hs, h => by
    have h1 := h x List.mem_cons_self
    have hs2 := List.pairwise_cons.1 hs
    rw [rangeK, upP]
    unfold inR
    rw [h1]
    simp only [Bool.not_false, Bool.true_and]
    cases hb : belowB to_ x.1 with
    | true =>
      rw [if_pos rfl, if_pos rfl, rangeK_up hs2.2 (fun y hy => h y (List.mem_cons_of_mem _ hy))]
    | false =>
      rw [if_neg (by simp), if_neg (by simp)]
      exact rangeK_none (fun y hy => belowB_up hb (hs2.1 y hy))
theorem rangeK_seek {from_ to_ : ByteArray} : ∀ {l : List PairS} {m : Nat}, SortedP l → rangeK from_ to_ l m = upP to_ (l.drop (seekP from_ l)) m
  | [], _, _ => by simp [rangeK, upP]
  | x :: r, m, hs => by
    have hs2 := List.pairwise_cons.1 hs
    cases hx : ltS x.1 from_ with
    | true =>
      have e : seekP from_ (x :: r) = seekP from_ r + 1 := by unfold seekP; rw [List.findIdx_cons, hx]; rfl
      rw [e, List.drop_succ_cons, ← rangeK_seek hs2.2]
      cases m with
      | zero => cases r <;> simp [rangeK]
      | succ m => rw [rangeK, if_neg (by unfold inR; rw [hx]; simp)]
    | false =>
      have e : seekP from_ (x :: r) = 0 := by unfold seekP; rw [List.findIdx_cons, hx]; rfl
      rw [e, List.drop_zero]
      refine rangeK_up hs (fun y hy => ?_)
      rcases List.mem_cons.1 hy with rfl | hy
      · exact hx
      · cases hc : ltS y.1 from_ with
        | false => rfl
        | true => have := ltS_trans (hs2.1 y hy) hc; rw [hx] at this; cases this
theorem upP_len {to_ : ByteArray} : ∀ (l : List PairS) (m : Nat), (upP to_ l m).length ≤ l.length
  | [], m => by simp [upP]
  | _ :: _, 0 => by simp [upP]
  | x :: r, m + 1 => by
    rw [upP]
    split
    · have := upP_len (to_ := to_) r m; simp only [List.length_cons]; omega
    · simp
set_option maxRecDepth 100000 in
set_option maxHeartbeats 2000000 in
theorem range12_any {F : Nat → Prop} {w : World} (L : List PairS) (lv : Value) (hl : Sl F w 2 encP lv L) (hlen : L.length ≤ 1000) (from_ to_ : ByteArray) (N : Nat) (hN : N ≤ 65535) :
    Calls Tryz.prog 36 #[lv, .string from_, .string to_, .int .i64 (N : Int)] w fun e w' => ∃ kv, e = .returned kv ∧ Own (fun _ => False) w' w.heap.size 98 2 encP kv (rangeK from_ to_ L N) ∧ Ext w w' := by
  have HQ := Lib.hid hl
  obtain ⟨qa, qc, rfl, b1, b2, b3, -⟩ := hl
  unfold maxLen at b2
  have HO0 : Hid (Own (fun _ => False) (w.alloc (.cells #[] 98)) w.heap.size 98 2 encP (.slice (some ⟨w.heap.size, 0, none⟩) 0 0) ([] : List PairS)) := Lib.hid (Own.empty (fun k f => f.elim) _ _ _ encP_ok.len)
  have HM0 : Hid (Ext w (w.alloc (.cells #[] 98))) := Lib.hid ((Mods.refl _ w).alloc _)
  go_enter Tryz.func36, Tryz.ntmps36
  go_wp2_with fail
  go_loopg [9, 10] L.length (fun m v9 v10 wr => ∃ (k : Nat) (o : List PairS), k + m = L.length ∧ v10 = .int .i64 (k : Int) ∧ o.length ≤ k ∧ o.length ≤ N ∧ Hid (Own (fun _ => False) wr w.heap.size 98 2 encP v9 o ∧ Ext w wr ∧ o ++ rangeK from_ to_ (L.drop k) (N - o.length) = rangeK from_ to_ L N))
  case atStart => exact ⟨0, [], by omega, rfl, Nat.le_refl _, Nat.zero_le _, Lib.hid ⟨HO0.out, HM0.out, rfl⟩⟩
  case round =>
    obtain ⟨k, o, hkm, rfl, hok, hoN, HR⟩ := hrel
    obtain ⟨va, vc, rfl, vq1, vq2⟩ := HR.out.1.form
    have HW : Hid (w.heap.size ≤ wr.heap.size) := Lib.hid HR.out.2.1.size
    have HOK := Lib.hid (And.intro hok hoN)
    by_cases hlt : k < L.length
    · have hdr : L.drop k = L[k] :: L.drop (k + 1) := List.drop_eq_getElem_cons hlt
      obtain ⟨y, hy⟩ : ∃ y, y = L[k] := ⟨_, rfl⟩
      have i2 : (0 : Int) ≤ (k : Int) := by omega
      have i3 : (k : Int) < (L.length : Int) := by omega
      by_cases hoo : o.length < N
      · have i1 : (o.length : Int) < (N : Int) := by omega
        obtain ⟨qb, qoff, hqa, hc⟩ := HQ.out.elem hlt HR.out.2.1
        have d0 := hc 0 (.string y.1) (by rw [hy]; rfl)
        have d1 := hc 1 (.string y.2) (by rw [hy]; rfl)
        simp only [Nat.add_zero] at d0
        obtain ⟨r, hr⟩ : ∃ r, N - o.length = r + 1 := ⟨N - o.length - 1, by omega⟩
        have hres := HR.out.2.2
        rw [hdr, hr, rangeK, ← hy] at hres
        have HRR := Lib.hid hr
        have HLT := Lib.hid hlt
        subst hqa
        cases hir : inR from_ to_ y.1 with
        | true =>
          rw [if_pos hir] at hres
          have HRS : Hid (o ++ [y] ++ rangeK from_ to_ (L.drop (k + 1)) r = rangeK from_ to_ L N) := Lib.hid (by rw [← hres]; simp)
          unfold inR at hir
          rw [Bool.and_eq_true] at hir
          have hge : Op.bytesLess y.1.toList from_.toList = false := by
            have h5 : ltS y.1 from_ = false := by simpa using hir.1
            exact h5
          have hge2 : (Op.bytesLess from_.toList y.1.toList || from_.toList == y.1.toList) = true := by
            have h9 : leS from_ y.1 = true := by have h8 := notLe from_ y.1; have h7 : ltS y.1 from_ = false := hge; rw [h7] at h8; simpa using h8
            exact h9
          have hge3 : (Op.bytesLess from_.toList y.1.toList || y.1.toList == from_.toList) = true := by
            rw [Bool.or_eq_true] at hge2 ⊢
            exact hge2.imp id (fun h => by rw [beq_iff_eq] at h ⊢; exact h.symm)
          have hway := belowB_way hir.2
          have HOW := Lib.hid (HR.out.1.ext ((Mods.refl _ wr).alloc (.cells #[.string y.1, .string y.2] 98)))
          clear hc hy hir hdr hr hres hlt hoo vq1 vq2
          rcases hway with hfe | ⟨hfe, hle⟩
          all_goals
            go_wp2_with (first
              | (at_builtin; refine wpl_app2 Tryz.elP encP_ok rfl _ _ rfl w.heap.size _ _ o [y] rfl rfl HOW.out (Sl.one (F := fun _ => False) (heap_at (by simp)) (fun f => f)) (by have := HOK.out.1; have := HLT.out; simp only [List.length_cons, List.length_nil]; omega) (by have := HW.out; simp; omega) (fun f => f) ?_; simp only [List.length_cons, List.length_nil, Nat.zero_add]; intro a6 c6 w6 hO6 hm6 hat6; have HO6 := Lib.hid hO6; have HM6 := Lib.hid hm6; clear hO6 hm6 hat6)
              | fail)
            go_roundg (gk - 1)
            case measure => have := HLT.out; omega
            case rel =>
              refine ⟨k + 1, o ++ [y], by have := HLT.out; omega, by go_num, by have := HOK.out.1; simp; omega, by have := HRR.out; simp; omega, Lib.hid ⟨by simpa using HO6.out, (HR.out.2.1.alloc _).trans' HM6.out (fun i hi e => by have := (HR.out.1.lt i e).1; omega), ?_⟩⟩
              have hr2 : N - (o ++ [y]).length = r := by have := HRR.out; simp; omega
              rw [hr2]
              exact HRS.out
        | false =>
          rw [if_neg (by rw [hir]; simp)] at hres
          have HRS : Hid (o ++ rangeK from_ to_ (L.drop (k + 1)) (N - o.length) = rangeK from_ to_ L N) := Lib.hid (by rw [HRR.out]; exact hres)
          unfold inR at hir
          have hcase : Op.bytesLess y.1.toList from_.toList = true ∨ (Op.bytesLess y.1.toList from_.toList = false ∧ belowB to_ y.1 = false) := by
            cases hq : ltS y.1 from_ with
            | true => exact .inl hq
            | false => rw [hq] at hir; exact .inr ⟨hq, by simpa using hir⟩
          clear hc hy hir hdr hr hres hlt hoo vq1 vq2
          rcases hcase with hge | ⟨hge, hbl⟩
          · have hle9 : leS from_ y.1 = false := by have h8 := notLe from_ y.1; have h7 : ltS y.1 from_ = true := hge; rw [h7] at h8; simpa using h8
            have hge2 : (Op.bytesLess from_.toList y.1.toList || from_.toList == y.1.toList) = false := hle9
            have hge3 : (Op.bytesLess from_.toList y.1.toList || y.1.toList == from_.toList) = false := by
              rw [Bool.or_eq_false_iff] at hge2 ⊢
              exact ⟨hge2.1, by have := hge2.2; rw [beq_eq_false_iff_ne] at this ⊢; exact fun e => this e.symm⟩
            clear hle9
            go_wp2_with fail
            go_roundg (gk - 1)
            case measure => have := HLT.out; omega
            case rel => exact ⟨k + 1, o, by have := HLT.out; omega, by go_num, by have := HOK.out.1; omega, HOK.out.2, Lib.hid ⟨HR.out.1, HR.out.2.1, HRS.out⟩⟩
          · have hle9 : leS from_ y.1 = true := by have h8 := notLe from_ y.1; have h7 : ltS y.1 from_ = false := hge; rw [h7] at h8; simpa using h8
            have hge2 : (Op.bytesLess from_.toList y.1.toList || from_.toList == y.1.toList) = true := hle9
            have hge3 : (Op.bytesLess from_.toList y.1.toList || y.1.toList == from_.toList) = true := by
              rw [Bool.or_eq_true] at hge2 ⊢
              exact hge2.imp id (fun h => by rw [beq_iff_eq] at h ⊢; exact h.symm)
            obtain ⟨hfe, hle⟩ := belowB_no hbl
            clear hle9 hbl
            go_wp2_with fail
            go_roundg (gk - 1)
            case measure => have := HLT.out; omega
            case rel => exact ⟨k + 1, o, by have := HLT.out; omega, by go_num, by have := HOK.out.1; omega, HOK.out.2, Lib.hid ⟨HR.out.1, HR.out.2.1, HRS.out⟩⟩
      · have i1 : ¬ (o.length : Int) < (N : Int) := by omega
        have HCN : Hid (o = rangeK from_ to_ L N) := Lib.hid (by
          have := HR.out.2.2
          rw [show N - o.length = 0 by omega] at this
          rw [← this, hdr]
          simp [rangeK])
        clear hdr hy hlt hoo vq1 vq2
        go_wp2_with fail
        go_ret
        exact ⟨_, rfl, by rw [← HCN.out]; exact HR.out.1, HR.out.2.1⟩
    · have i3 : ¬ (k : Int) < (L.length : Int) := by omega
      have HCN : Hid (o = rangeK from_ to_ L N) := Lib.hid (by have := HR.out.2.2; rw [List.drop_eq_nil_of_le (by omega)] at this; simpa [rangeK] using this)
      clear hlt vq1 vq2
      go_wp2_with fail
      go_ret
      exact ⟨_, rfl, by rw [← HCN.out]; exact HR.out.1, HR.out.2.1⟩
set_option maxRecDepth 100000 in
set_option maxHeartbeats 2000000 in
theorem same12P_any {F Q : Nat → Prop} {w : World} (L : List PairS) (av bv : Value) (ha : Sl F w 2 encP av L) (hb : Sl Q w 2 encP bv L) (hlen : L.length ≤ 1000) :
    Calls Tryz.prog 37 #[av, bv] w fun e w' => e = .returned (.bool true) ∧ Ext w w' := by
  have HA := Lib.hid ha
  have HB := Lib.hid hb
  obtain ⟨aa, ac, rfl, a1, a2, a3, -⟩ := ha
  obtain ⟨ba, bc, rfl, b1, b2, b3, -⟩ := hb
  unfold maxLen at a2 b2
  go_enter Tryz.func37, Tryz.ntmps37
  go_wp2_with fail
  go_loopg [5] L.length (fun m v5 wr => ∃ (k : Nat), k + m = L.length ∧ v5 = .int .i64 (k : Int) ∧ Hid (Ext w wr))
  case atStart => exact ⟨0, by omega, rfl, Lib.hid (Mods.refl _ w)⟩
  case round =>
    obtain ⟨k, hkm, rfl, HX⟩ := hrel
    by_cases hlt : k < L.length
    · obtain ⟨y, hy⟩ : ∃ y, y = L[k] := ⟨_, rfl⟩
      obtain ⟨qb, qoff, hqa, hc⟩ := HA.out.elem hlt HX.out
      obtain ⟨rb, roff, hra, hd⟩ := HB.out.elem hlt HX.out
      have c0 := hc 0 (.string y.1) (by rw [hy]; rfl)
      have c1 := hc 1 (.string y.2) (by rw [hy]; rfl)
      have d0 := hd 0 (.string y.1) (by rw [hy]; rfl)
      have d1 := hd 1 (.string y.2) (by rw [hy]; rfl)
      simp only [Nat.add_zero] at c0 d0
      subst hqa hra
      have i2 : (0 : Int) ≤ (k : Int) := by omega
      have i3 : (k : Int) < (L.length : Int) := by omega
      have HLT := Lib.hid hlt
      clear hc hd hy hlt
      go_wp2_with fail
      go_quiet (fail)
      go_wp2_with fail
      go_roundg (gk - 1)
      case measure => have := HLT.out; omega
      case rel => exact ⟨k + 1, by have := HLT.out; omega, by go_num, Lib.hid (HX.out.trans ((Mods.refl _ wr).drewN _))⟩
    · have i3 : ¬ (k : Int) < (L.length : Int) := by omega
      clear hlt
      go_wp2_with fail
      go_ret
      exact ⟨rfl, HX.out⟩
end Go.Proofs.YtepafbokbfcbgaaGreatDoor
namespace Go.Proofs.YtepafbokbfcbgaaGreatDoor
open Go.RowKit
attribute [local go_sem ↓] Go.wp_at_zero Go.wp_at_succ
section
variable {F P P' F' P1 F1 : Nat → Prop} {ad : Nat → Addr} {w w' w0 w1 : World} {c s gen : Nat} {root D : Nat} {G : GA} {l : List Nat} {L : List PairS}
set_option maxRecDepth 100000 in
theorem range_bad (hL : Env F ad w) (hP : ∀ k, P k → F k) (h : PgR F w P c s G l) (gen : Nat) (root : Int) (from_ to_ : ByteArray) (most : Int) (hm : askB from_ to_ most = false) :
    Calls Tryz.prog 34 #[pgV c s gen, .int .i64 root, .string from_, .string to_, .int .i64 most] w (PgDone F P ad w c s G l (fun F' w' e => ∃ b, e = .returned (.tuple #[.slice none 0 0, faultV b]) ∧ ErrC F' ad w' (faultV b) [-1] 2)) := by
  have m0 : Ext w (w.alloc (.cells #[.pointer (some ⟨c, 0, none⟩), .pointer (some ⟨s, 0, none⟩), .int .u64 (gen : Int)] 34)) := (Mods.refl _ w).alloc _
  have HN0 := Lib.hid (Nxt.ext hL hP m0)
  have hOP := fun op => open_cur HN0.out.env hP (h.at m0) gen root op from_ to_ most
  rw [hm] at hOP
  have HOP := Lib.hid hOP
  clear hL hP h m0 hOP hm
  unfold pgV at HOP ⊢
  go_enter Tryz.func34, Tryz.ntmps34
  go_wp2_with fail
  refine (HOP.out _).mono ?_
  rintro e w1 hd
  obtain ⟨b, F1, rfl, hG1, hN1, hE1⟩ : ∃ b F', e = .returned (.tuple #[.pointer none, faultV b]) ∧ PgR F' w1 P c s G l ∧ Nxt P P F F' ad (w.alloc (.cells #[.pointer (some ⟨c, 0, none⟩), .pointer (some ⟨s, 0, none⟩), .int .u64 (gen : Int)] 34)) w1 ∧ ErrC F' ad w1 (faultV b) [-1] 2 := by
    rcases hd with ⟨h, _⟩ | ⟨_, h⟩
    · cases h
    · exact h
  have HG1 := Lib.hid hG1
  have HN1 := Lib.hid (HN0.out.trans hN1)
  have HE1 := Lib.hid hE1
  clear hd hG1 hN1 hE1
  go_wp2_with fail
  refine bodyPost_ret (v := .tuple #[.slice none 0 0, faultV b]) (by simp [results, Tryz.results34, go_sem]) rfl ?_
  exact ⟨P, F1, HG1.out, HN1.out, b, rfl, HE1.out⟩
set_option maxRecDepth 100000 in
theorem count_bad (hL : Env F ad w) (hP : ∀ k, P k → F k) (h : PgR F w P c s G l) (gen : Nat) (root : Int) (from_ to_ : ByteArray) (hm : askB from_ to_ 0 = false) :
    Calls Tryz.prog 35 #[pgV c s gen, .int .i64 root, .string from_, .string to_] w (PgDone F P ad w c s G l (fun F' w' e => ∃ b, e = .returned (.tuple #[.int .i64 0, faultV b]) ∧ ErrC F' ad w' (faultV b) [-1] 2)) := by
  have m0 : Ext w (w.alloc (.cells #[.pointer (some ⟨c, 0, none⟩), .pointer (some ⟨s, 0, none⟩), .int .u64 (gen : Int)] 34)) := (Mods.refl _ w).alloc _
  have HN0 := Lib.hid (Nxt.ext hL hP m0)
  have hOP := fun op => open_cur HN0.out.env hP (h.at m0) gen root op from_ to_ 0
  rw [hm] at hOP
  have HOP := Lib.hid hOP
  clear hL hP h m0 hOP hm
  unfold pgV at HOP ⊢
  go_enter Tryz.func35, Tryz.ntmps35
  go_wp2_with fail
  refine (HOP.out _).mono ?_
  rintro e w1 hd
  obtain ⟨b, F1, rfl, hG1, hN1, hE1⟩ : ∃ b F', e = .returned (.tuple #[.pointer none, faultV b]) ∧ PgR F' w1 P c s G l ∧ Nxt P P F F' ad (w.alloc (.cells #[.pointer (some ⟨c, 0, none⟩), .pointer (some ⟨s, 0, none⟩), .int .u64 (gen : Int)] 34)) w1 ∧ ErrC F' ad w1 (faultV b) [-1] 2 := by
    rcases hd with ⟨h, _⟩ | ⟨_, h⟩
    · cases h
    · exact h
  have HG1 := Lib.hid hG1
  have HN1 := Lib.hid (HN0.out.trans hN1)
  have HE1 := Lib.hid hE1
  clear hd hG1 hN1 hE1
  go_wp2_with fail
  refine bodyPost_ret (v := .tuple #[.int .i64 0, faultV b]) (by simp [results, Tryz.results35, go_sem]) rfl ?_
  exact ⟨P, F1, HG1.out, HN1.out, b, rfl, HE1.out⟩
end
end Go.Proofs.YtepafbokbfcbgaaGreatDoor
namespace Go.Proofs.YtepafbokbfcbgaaGreatDoor
open Go.RowKit
attribute [local go_sem ↓] Go.wp_at_zero Go.wp_at_succ
theorem askB_two (a b : ByteArray) (most : Int) : askB a b most = (boundB a && boundB b && !decide (most < 0) && !decide (most > 65535)) := by
  unfold askB
  congr 1
  · congr 1
    by_cases h : most < 0
    · rw [decide_eq_true h, decide_eq_false (by omega)]; rfl
    · rw [decide_eq_false h, decide_eq_true (by omega)]; rfl
  · by_cases h : most > 65535
    · rw [decide_eq_true h, decide_eq_false (by omega)]; rfl
    · rw [decide_eq_false h, decide_eq_true (by omega)]; rfl
set_option maxRecDepth 100000 in
set_option maxHeartbeats 4000000 in
theorem CursorRanges_any {ad : Nat → Addr} {w : World} (hL : Env NoB ad w) (hfu : Full ad) (l : List PairS) (lv : Value) (hl : Sl NoB w 2 encP lv l) (E K : Nat) (hE : E < 256) (hK : K < 256) (from_ to_ : ByteArray) (most : Int) :
    Calls Tryz.prog 8 #[.agg #[lv, .int .u8 (E : Int), .int .u8 (K : Int)], .agg #[.string from_, .string to_, .int .i64 most]] w fun e w' => e = .returned (.bool true) ∧ Ext w w' := by
  have m0 : Ext w ((w.alloc (.cells #[lv, .int .u8 (E : Int), .int .u8 (K : Int)] 50)).alloc (.cells #[.string from_, .string to_, .int .i64 most] 52)) := ((Mods.refl _ w).alloc _).alloc _
  have HL := Lib.hid (hL.mods m0.ext)
  have HFU := Lib.hid hfu
  have hT0 := tree_on (tameP_ok 300 l) (e := 1 + E % 3) (k := 2 + K % 3) (by omega) (by omega) (by omega) (by omega)
  have HT := Lib.hid hT0
  have HTE := Lib.hid (hT0.full (by omega) (by omega) (by omega) (by omega))
  have HBC := Lib.hid (built12_any l lv (hl.ext m0) E K hE hK)
  have HM0 := Lib.hid m0
  have HAB : Hid (Blk ((w.alloc (.cells #[lv, .int .u8 (E : Int), .int .u8 (K : Int)] 50)).alloc (.cells #[.string from_, .string to_, .int .i64 most] 52)) (w.heap.size + 1) #[.string from_, .string to_, .int .i64 most] 52) := Lib.hid (heap_at (by simp))
  have HBD := Lib.hid (bound12_any from_)
  have HBE := Lib.hid (bound12_any to_)
  obtain ⟨la, lc, rfl, _, _, _, _⟩ := hl
  clear hL hfu m0 hT0
  go_enter Tryz.func8, Tryz.ntmps8
  go_wp2_with fail
  refine (HBC.out).mono ?_
  rintro e w1 ⟨pv, xs, vl, rfl, hP, hxs, hO, hm1⟩
  obtain ⟨q, hq⟩ : ∃ q, q = tameP 300 l := ⟨_, rfl⟩
  rw [← hq] at hxs HT HTE hO ⊢
  obtain ⟨r, hr⟩ : ∃ r, r = buildA 5 (1 + E % 3) (2 + K % 3) q := ⟨_, rfl⟩
  rw [← hr] at hxs HT HTE ⊢
  have HM1 := Lib.hid hm1
  have hpu := HT.out.puts
  rw [← hxs] at hpu
  have hln : xs.length ≤ 1000 := by have := HT.out.few; rw [← hxs, List.length_map] at this; omega
  have hql : q.length ≤ 1000 := by have := HT.out.tame.len; omega
  obtain ⟨hsl, hbs⟩ := hP.pages hln (fun x hx => hpu.bodies _ (List.mem_map_of_mem hx))
  obtain ⟨pa, pc, rfl, _, _⟩ := hP.row.form
  have hqs : Sl NoB w1 2 encP vl q := hO.sl encP_ok.len (by omega)
  have m2 : Ext w1 (w1.alloc (.cells #[.slice pa xs.length pc, .int .i64 (r.2.1 : Int), .int .i64 (r.2.2 : Int)] 27)) := (Mods.refl _ w1).alloc _
  have HPC := Lib.hid (pager12_any (HL.out.mods ((HM1.out.trans m2).ext)) xs (.slice pa xs.length pc) (hsl.ext m2) (fun x hx => (hbs x hx).ext m2) hpu hln)
  have HTB := Lib.hid (Blk.new w1 #[.slice pa xs.length pc, .int .i64 (r.2.1 : Int), .int .i64 (r.2.2 : Int)] 27)
  have HM2 := Lib.hid (HM1.out.trans m2)
  have HQS := Lib.hid (hqs.ext m2)
  have HQL := Lib.hid hql
  obtain ⟨va, vc, rfl, v1, v2, v3, _⟩ := hqs
  unfold maxLen at v2
  rw [hxs] at HPC
  clear hP hxs hm1 hr hpu hln hsl hbs m2 hO hq
  go_wp2_with fail
  refine (HPC.out).mono ?_
  rintro e w2 ⟨c, s, P, F, rfl, hG, hN⟩
  have hS := LG.startZ (gen := 5) hG hN 5 rfl
  have t0 := hS.c0
  have t1 := hS.c1
  have t2 : _ = some (Value.int .u64 5) := hS.c2
  have hb := hS.old HTB.out
  have b1 := hb.cell (o := 1) (v := .int .i64 (r.2.1 : Int)) rfl
  have HS := Lib.hid hS
  have ha := HAB.out.ext (HM2.out.trans hS.ext0)
  have a0 := ha.cell (o := 0) (v := .string from_) rfl
  have a1 := ha.cell (o := 1) (v := .string to_) rfl
  have a2 := ha.cell (o := 2) (v := .int .i64 most) rfl
  have HD : Hid (r.2.2 ≤ 16) := Lib.hid (by rcases HTE.out.1 with ⟨_, _, h⟩ | ⟨_, _, h, _⟩ <;> omega)
  have HTT : Hid (putsG (G0 200) r.1).total := Lib.hid (G0_puts_total 200 r.1)
  clear hG hN hb ha hql
  obtain ⟨q1, hq1⟩ : ∃ q, boundB from_ = q := ⟨_, rfl⟩
  obtain ⟨q2, hq2⟩ : ∃ q, boundB to_ = q := ⟨_, rfl⟩
  rw [hq1] at HBD
  rw [hq2] at HBE
  cases hqq : q1 && q2 with
  | false =>
    have hok : askB from_ to_ most = false := by rw [askB_two, hq1, hq2, hqq]; rfl
    have hok0 : askB from_ to_ 0 = false := by rw [askB_two, hq1, hq2, hqq]; rfl
    have HOK0 := Lib.hid hok0
    have HQQ := Lib.hid hqq
    have HBB := Lib.hid (range_bad hS.env hS.sub hS.pg 5 (r.2.1 : Int) from_ to_ most hok)
    rw [pgV5] at HBB ⊢
    clear hS hok hok0 hq1 hq2 hqq
    go_wp2_with fail
    refine (HBB.out).mono ?_
    rintro e w3 hd
    obtain ⟨P3, F3, hS3, b, rfl, hE3⟩ := HS.out.done hd
    have HS3 := Lib.hid hS3
    have HE3 := Lib.hid hE3
    have hcb := count_bad hS3.env hS3.sub hS3.pg 5 (r.2.1 : Int) from_ to_ HOK0.out
    rw [pgV5] at hcb
    have HCB := Lib.hid hcb
    have t0 := hS3.c0
    have t1 := hS3.c1
    have t2 : _ = some (Value.int .u64 5) := hS3.c2
    have hb := hS3.old HTB.out
    have b1 := hb.cell (o := 1) (v := .int .i64 (r.2.1 : Int)) rfl
    have ha := HAB.out.ext (HM2.out.trans hS3.ext0)
    have a0 := ha.cell (o := 0) (v := .string from_) rfl
    have a1 := ha.cell (o := 1) (v := .string to_) rfl
    clear hd hS3 hE3 hb ha hcb
    go_wp2_with fail
    refine (HCB.out).mono ?_
    rintro e w4 ⟨P9, F9, g9, n9, b9, rfl, hE9⟩
    have HS9 := Lib.hid (HS3.out.step n9 g9)
    have hE39 : ErrC F9 ad w4 (faultV b) [-1] 2 := HE3.out.step (n9.stp.mods.mono HS3.out.sub) (fun k hk hn hf => hn (n9.oldF k hk hf))
    have HTL := Lib.hid (tells12T HS9.out.env HFU.out hE39 2 (by omega) rfl)
    have HTL2 := Lib.hid (tells12T HS9.out.env HFU.out hE9 2 (by omega) rfl)
    have HX := Lib.hid (HM2.out.trans HS9.out.ext0)
    have HAW := Lib.hid (awake12_any (HL.out.mods HX.out.ext))
    have ha := HAB.out.ext HX.out
    have a0 := ha.cell (o := 0) (v := .string from_) rfl
    have a1 := ha.cell (o := 1) (v := .string to_) rfl
    clear t0 t1 t2 b1 ha hE39 hE9 g9 n9
    cases q1 with
    | false =>
      clear HQQ
      go_wp2_with fail
      refine (HBD.out _).mono ?_
      rintro e w5 ⟨rfl, rfl⟩
      go_wp2_with fail
      refine (HTL.out).mono ?_
      rintro e w5 ⟨rfl, rfl⟩
      go_wp2_with fail
      refine (HTL2.out).mono ?_
      rintro e w5 ⟨rfl, rfl⟩
      go_wp2_with fail
      refine (HAW.out).mono ?_
      rintro e w5 ⟨rfl, hm5⟩
      have HM5 := Lib.hid ((HM0.out.trans HX.out).trans hm5)
      clear hm5
      go_wp2_with fail
      go_ret
      exact ⟨rfl, HM5.out⟩
    | true =>
      have hq2f : q2 = false := HQQ.out
      subst hq2f
      clear HQQ
      go_wp2_with fail
      refine (HBD.out _).mono ?_
      rintro e w5 ⟨rfl, rfl⟩
      go_wp2_with fail
      refine (HBE.out _).mono ?_
      rintro e w5 ⟨rfl, rfl⟩
      go_wp2_with fail
      refine (HTL.out).mono ?_
      rintro e w5 ⟨rfl, rfl⟩
      go_wp2_with fail
      refine (HTL2.out).mono ?_
      rintro e w5 ⟨rfl, rfl⟩
      go_wp2_with fail
      refine (HAW.out).mono ?_
      rintro e w5 ⟨rfl, hm5⟩
      have HM5 := Lib.hid ((HM0.out.trans HX.out).trans hm5)
      clear hm5
      go_wp2_with fail
      go_ret
      exact ⟨rfl, HM5.out⟩
  | true =>
    have hq1t : q1 = true := by cases q1; cases hqq; rfl
    have hq2t : q2 = true := by cases q2; cases q1 <;> cases hqq; rfl
    subst hq1t hq2t
    have hok0 : askB from_ to_ 0 = true := by rw [askB_two, hq1, hq2]; rfl
    have HOK0 := Lib.hid hok0
    have hak : askB from_ to_ most = (!decide (most < 0) && !decide (most > 65535)) := by rw [askB_two, hq1, hq2]; rfl
    have HAK := Lib.hid hak
    have HSO := Lib.hid HT.out.tame.sorted
    obtain ⟨o65, ho65⟩ : ∃ o, o = upP to_ (q.drop (seekP from_ q)) 65535 := ⟨_, rfl⟩
    have HO65 := Lib.hid ho65
    have HL65 : Hid (o65.length ≤ 1000) := Lib.hid (by have := upP_len (to_ := to_) (q.drop (seekP from_ q)) 65535; rw [← ho65, List.length_drop] at this; have := HQL.out; omega)
    clear hok0 hak hq1 hq2 hqq ho65
    cases hok : askB from_ to_ most with
    | false =>
      have HBB := Lib.hid (range_bad hS.env hS.sub hS.pg 5 (r.2.1 : Int) from_ to_ most hok)
      have hway := HAK.out
      rw [hok] at hway
      have HWAY := Lib.hid hway
      rw [pgV5] at HBB ⊢
      clear hS hok hway
      go_wp2_with fail
      refine (HBB.out).mono ?_
      rintro e w3 hd
      obtain ⟨P3, F3, hS3, b, rfl, hE3⟩ := HS.out.done hd
      have HS3 := Lib.hid hS3
      have HE3 := Lib.hid hE3
      have hcb := count_any hS3.env hS3.sub hS3.pg HQL.out HTT.out HD.out HTE.out 5 from_ to_ HOK0.out
      rw [pgV5, ← HO65.out] at hcb
      have HCB := Lib.hid hcb
      have t0 := hS3.c0
      have t1 := hS3.c1
      have t2 : _ = some (Value.int .u64 5) := hS3.c2
      have hb := hS3.old HTB.out
      have b1 := hb.cell (o := 1) (v := .int .i64 (r.2.1 : Int)) rfl
      have ha := HAB.out.ext (HM2.out.trans hS3.ext0)
      have a0 := ha.cell (o := 0) (v := .string from_) rfl
      have a1 := ha.cell (o := 1) (v := .string to_) rfl
      clear hd hS3 hE3 hb ha hcb
      go_wp2_with fail
      refine (HCB.out).mono ?_
      rintro e w4 ⟨P9, F9, g9, n9, rfl⟩
      have HS9 := Lib.hid (HS3.out.step n9 g9)
      have HE39 : Hid (ErrC F9 ad w4 (faultV b) [-1] 2) := Lib.hid (HE3.out.step (n9.stp.mods.mono HS3.out.sub) (fun k hk hn hf => hn (n9.oldF k hk hf)))
      have HX := Lib.hid (HM2.out.trans HS9.out.ext0)
      have HR12 := Lib.hid (range12_any q (.slice va q.length vc) (HS9.out.sl HQS.out) HQL.out from_ to_ 65535 (by omega))
      have ha := HAB.out.ext HX.out
      have a0 := ha.cell (o := 0) (v := .string from_) rfl
      have a1 := ha.cell (o := 1) (v := .string to_) rfl
      clear t0 t1 t2 b1 ha g9 n9
      go_wp2_with fail
      refine (HBD.out _).mono ?_
      rintro e w5 ⟨rfl, rfl⟩
      go_wp2_with fail
      refine (HBE.out _).mono ?_
      rintro e w5 ⟨rfl, rfl⟩
      go_wp2_with fail
      refine (HR12.out).mono ?_
      rintro e w5 ⟨kv, rfl, hO5, hm5⟩
      rw [rangeK_seek HSO.out, ← HO65.out] at hO5
      obtain ⟨ka, kc, rfl, _, _⟩ := hO5.form
      have HS5 := Lib.hid (HS9.out.ext hm5)
      have HTL := Lib.hid (tells12T HS5.out.env HFU.out (HE39.out.mods hm5.ext) 2 (by omega) rfl)
      have HX5 := Lib.hid (HX.out.trans hm5)
      have HAW := Lib.hid (awake12_any (HL.out.mods HX5.out.ext))
      have ha := HAB.out.ext HX5.out
      have a2 := ha.cell (o := 2) (v := .int .i64 most) rfl
      clear hO5 hm5 ha a0 a1
      have hq : most < 0 ∨ (¬ most < 0 ∧ most > 65535) := by
        have := HWAY.out
        by_cases h : most < 0
        · exact .inl h
        · refine .inr ⟨h, ?_⟩
          rw [decide_eq_false h] at this
          simpa using this
      rcases hq with h3 | ⟨h3, h4⟩
      all_goals
        go_wp2_with fail
        refine (HTL.out).mono ?_
        rintro e w6 ⟨rfl, rfl⟩
        go_wp2_with fail
        refine (HAW.out).mono ?_
        rintro e w6 ⟨rfl, hm6⟩
        have HM6 := Lib.hid ((HM0.out.trans HX5.out).trans hm6)
        clear hm6
        go_wp2_with fail
        go_ret
        exact ⟨rfl, HM6.out⟩
    | true =>
      have hway := HAK.out
      rw [hok] at hway
      have h3 : ¬ most < 0 := fun h => by rw [decide_eq_true h] at hway; cases hway
      have h4 : ¬ most > 65535 := fun h => by rw [decide_eq_true h] at hway; cases h5 : decide (most < 0) <;> rw [h5] at hway <;> cases hway
      have HBB := Lib.hid (range_any hS.env hS.sub hS.pg HQL.out HTT.out HD.out HTE.out 5 from_ to_ most hok)
      obtain ⟨N, rfl⟩ : ∃ N : Nat, most = (N : Int) := ⟨most.toNat, by omega⟩
      have HNN : Hid (N ≤ 65535) := Lib.hid (by omega)
      rw [Int.toNat_natCast] at HBB
      obtain ⟨o, ho⟩ : ∃ o, o = upP to_ (q.drop (seekP from_ q)) N := ⟨_, rfl⟩
      have HOO := Lib.hid ho
      have HOL : Hid (o.length ≤ 1000) := Lib.hid (by have := upP_len (to_ := to_) (q.drop (seekP from_ q)) N; rw [← ho, List.length_drop] at this; have := HQL.out; omega)
      rw [← ho] at HBB
      rw [pgV5] at HBB ⊢
      clear hS hok hway ho h3 h4
      go_wp2_with fail
      refine (HBB.out).mono ?_
      rintro e w3 hd
      obtain ⟨P3, F3, hS3, v, rfl, hv⟩ := HS.out.done hd
      have HS3 := Lib.hid hS3
      have HV := Lib.hid hv
      have hcb := count_any hS3.env hS3.sub hS3.pg HQL.out HTT.out HD.out HTE.out 5 from_ to_ HOK0.out
      rw [pgV5, ← HO65.out] at hcb
      have HCB := Lib.hid hcb
      have t0 := hS3.c0
      have t1 := hS3.c1
      have t2 : _ = some (Value.int .u64 5) := hS3.c2
      have hb := hS3.old HTB.out
      have b1 := hb.cell (o := 1) (v := .int .i64 (r.2.1 : Int)) rfl
      have ha := HAB.out.ext (HM2.out.trans hS3.ext0)
      have a0 := ha.cell (o := 0) (v := .string from_) rfl
      have a1 := ha.cell (o := 1) (v := .string to_) rfl
      obtain ⟨ga, gc, rfl, _, _, _, _⟩ := hv
      clear hd hS3 hb ha hcb
      go_wp2_with fail
      refine (HCB.out).mono ?_
      rintro e w4 ⟨P9, F9, g9, n9, rfl⟩
      have HS9 := Lib.hid (HS3.out.step n9 g9)
      have HV9 : Hid (Sl F9 w4 2 encP (.slice ga o.length gc) o) := Lib.hid (HV.out.step (n9.stp.mods.mono HS3.out.sub) (fun k hk hn hf => hn (n9.oldF k hk hf)))
      have HX := Lib.hid (HM2.out.trans HS9.out.ext0)
      have HR12 := Lib.hid (range12_any q (.slice va q.length vc) (HS9.out.sl HQS.out) HQL.out from_ to_ 65535 (by omega))
      have ha := HAB.out.ext HX.out
      have a0 := ha.cell (o := 0) (v := .string from_) rfl
      have a1 := ha.cell (o := 1) (v := .string to_) rfl
      clear t0 t1 t2 b1 ha g9 n9
      go_wp2_with fail
      refine (HBD.out _).mono ?_
      rintro e w5 ⟨rfl, rfl⟩
      go_wp2_with fail
      refine (HBE.out _).mono ?_
      rintro e w5 ⟨rfl, rfl⟩
      go_wp2_with fail
      refine (HR12.out).mono ?_
      rintro e w5 ⟨kv, rfl, hO5, hm5⟩
      rw [rangeK_seek HSO.out, ← HO65.out] at hO5
      obtain ⟨ka, kc, rfl, _, _⟩ := hO5.form
      have HS5 := Lib.hid (HS9.out.ext hm5)
      have HV5 := Lib.hid (HV9.out.ext hm5)
      have HX5 := Lib.hid (HX.out.trans hm5)
      have HRN := Lib.hid (range12_any q (.slice va q.length vc) (HS5.out.sl HQS.out) HQL.out from_ to_ N HNN.out)
      have ha := HAB.out.ext HX5.out
      have a0 := ha.cell (o := 0) (v := .string from_) rfl
      have a1 := ha.cell (o := 1) (v := .string to_) rfl
      have a2 := ha.cell (o := 2) (v := .int .i64 (N : Int)) rfl
      have j1 : ¬ (N : Int) < 0 := by omega
      have j2 : ¬ (N : Int) > 65535 := by have := HNN.out; omega
      clear hO5 hm5 ha
      go_wp2_with fail
      refine (HRN.out).mono ?_
      rintro e w6 ⟨kv2, rfl, hO6, hm6⟩
      rw [rangeK_seek HSO.out, ← HOO.out] at hO6
      have HSM := Lib.hid (same12P_any o (.slice ga o.length gc) kv2 (HV5.out.ext hm6) (hO6.sl encP_ok.len (by have := HOL.out; omega)) HOL.out)
      have HX6 := Lib.hid (HX5.out.trans hm6)
      clear hO6 hm6
      go_wp2_with fail
      refine (HSM.out).mono ?_
      rintro e w7 ⟨rfl, hm7⟩
      have HX7 := Lib.hid (HX6.out.trans hm7)
      have HAW := Lib.hid (awake12_any (HL.out.mods HX7.out.ext))
      clear hm7
      go_wp2_with fail
      refine (HAW.out).mono ?_
      rintro e w8 ⟨rfl, hm8⟩
      have HM8 := Lib.hid ((HM0.out.trans HX7.out).trans hm8)
      clear hm8
      go_wp2_with fail
      go_ret
      exact ⟨rfl, HM8.out⟩
end Go.Proofs.YtepafbokbfcbgaaGreatDoor
