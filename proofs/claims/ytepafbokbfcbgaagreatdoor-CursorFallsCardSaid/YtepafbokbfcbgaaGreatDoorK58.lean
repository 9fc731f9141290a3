/- cursor.Back. | cursor.Back, walked. | ref12.Back. | CursorFalls, walked. -/
import Derived.Test.YtepafbokbfcbgaaGreatDoorK56
import Derived.Test.YtepafbokbfcbgaaGreatDoorK50
import Derived.Test.YtepafbokbfcbgaaGreatDoorK05
import Derived.Test.YtepafbokbfcbgaaGreatDoorK51
import Derived.Test.YtepafbokbfcbgaaGreatDoorK28
namespace Go.Proofs.YtepafbokbfcbgaaGreatDoor
open Go.RowKit
attribute [local go_sem ↓] Go.wp_at_zero Go.wp_at_succ
section
variable {α : Type} {F P P' F' P1 F1 P0 F0 : Nat → Prop} {ad : Nat → Addr} {w w' w0 w1 wr : World} {base c s gen kb : Nat} {root D : Nat} {G G' : GA} {l l' : List Nat} {L : List PairS} {sv sv' v v' : Value} {st st' : List FrE} {x x' : List α} {i : Int} {e : TypeId} {sz : Nat} {enc : α → List Value}
theorem CuI.app {r : Int} (h : CuI F P ad w base c s gen kb r G l sv st) (hr : LocR w0 F (cuQ P kb sv) w e sz enc v x) (n : Nxt P0 (cuQ P kb sv) F0 F ad w0 w) (ho : Own (fun _ => False) w' w0.heap.size e sz enc v' x') (m : Mods (fun k => v.ownBlock = some k) w w') {K : Nat} (hat : v'.ownBlock = v.ownBlock ∨ v'.ownBlock = some K) (hK : w.heap.size ≤ K) :
    CuI (plusV F v') P ad w' base c s gen kb r G l sv st := by
  have hnew : ∀ k, k < w.heap.size → ¬ F k → ¬ plusV F v' k := fun k hk hn hf => by
    rcases hf with hf | hf
    · exact hn hf
    · rcases hat with e | e
      · exact hn (hr.2 k (e ▸ hf)).1
      · rw [e] at hf; injection hf with hf; omega
  exact ⟨(LocR.app n hr ho m hat hK).1.env, fun k hk => .inl (h.sub k hk), h.pg.plus m (fun k hk e => (hr.2 k e).2 (.inl hk)) (fun k hk => (hr.2 k hk).1) hnew,
    ⟨h.cu.blk.mods m (fun e => (hr.2 kb e).2 (.inr (.inl rfl))), h.cu.row.mods m (fun g hg e => (hr.2 g e).2 (.inr (.inr hg))), fun y hy => (h.cu.fr y hy).step (m.mono (fun k hk => (hr.2 k hk).1)) hnew, fun k hk => ⟨.inl (h.cu.nP k hk).1, (h.cu.nP k hk).2⟩, h.cu.ok⟩, Nat.le_trans h.bl m.size⟩
/-- a cursor at a place, beside a row of the function's own. -/
def BkS (F0 P0 : Nat → Prop) (ad : Nat → Addr) (w0 : World) (c s gen kb root : Nat) (G : GA) (l : List Nat) (L : List PairS) (D : Nat) (i : Int) (e : TypeId) (sz : Nat) (enc : α → List Value) (v : Value) (x : List α) (wr : World) : Prop :=
  ∃ (F P : Nat → Prop) (base : Nat) (sv : Value) (st : List FrE), CuI F P ad wr base c s gen kb (root : Int) G l sv st ∧ Nxt P0 (cuQ P kb sv) F0 F ad w0 wr ∧ OnPos G L D (st.map FrE.pl) i ∧ LocR w0 F (cuQ P kb sv) wr e sz enc v x
theorem BkS.ext (h : BkS F0 P0 ad w0 c s gen kb root G l L D i e sz enc v x w) (m : Ext w w') : BkS F0 P0 ad w0 c s gen kb root G l L D i e sz enc v x w' := by
  obtain ⟨F, P, base, sv, st, h1, h2, h3, h4⟩ := h
  have h5 := h1.ext m
  exact ⟨F, P, base, sv, st, h5.1, h2.trans h5.2, h3, h4.ext m⟩
theorem BkS.ext0 (h : BkS F0 P0 ad w0 c s gen kb root G l L D i e sz enc v x w) : w0.heap.size ≤ w.heap.size := by
  obtain ⟨F, P, base, sv, st, h1, h2, h3, h4⟩ := h
  exact h2.stp.mods.size
theorem BkS.own (h : BkS F0 P0 ad w0 c s gen kb root G l L D i e sz enc v x w) : Own (fun _ => False) w w0.heap.size e sz enc v x := by
  obtain ⟨F, P, base, sv, st, h1, h2, h3, h4⟩ := h
  exact h4.1
theorem BkS.app (h : BkS F0 P0 ad w0 c s gen kb root G l L D i e sz enc v x w) (ho : Own (fun _ => False) w' w0.heap.size e sz enc v' x') (m : Mods (fun k => v.ownBlock = some k) w w') {K : Nat} (hat : v'.ownBlock = v.ownBlock ∨ v'.ownBlock = some K) (hK : w.heap.size ≤ K) :
    BkS F0 P0 ad w0 c s gen kb root G l L D i e sz enc v' x' w' := by
  obtain ⟨F, P, base, sv, st, h1, h2, h3, h4⟩ := h
  obtain ⟨j1, j2⟩ := LocR.app h2 h4 ho m hat hK
  exact ⟨plusV F v', P, base, sv, st, h1.app h4 h2 ho m hat hK, j1, h3, j2⟩
/-- behind the function: what is left of it. -/
theorem BkS.done (hL : Env F0 ad w0) (h : BkS F0 P0 ad w0 c s gen kb root G l L D i e sz enc v x w) (henc : ∀ y, (enc y).length = sz) (hl : x.length ≤ 140737488355328) :
    ∃ P', PgR (fun k => F0 k ∨ P' k) w P' c s G l ∧ Nxt P0 P' F0 (fun k => F0 k ∨ P' k) ad w0 w ∧ Sl (fun k => F0 k ∨ P' k) w sz enc v x := by
  obtain ⟨F, P, base, sv, st, h1, h2, h3, h4⟩ := h
  have n := (h2.shrink (P2 := P) (fun k hk => .inl hk))
  refine ⟨P, h1.pg.anti (fun k hk => hk.elim (h2.grow k) (h1.sub k)), n.least, ?_⟩
  exact Own.sl (F := fun k => F0 k ∨ P k) ⟨h4.1.1, fun g hg hf => hf.elim (fun hf => by have h1 := (h4.1.lt g hg).1; have h2 := hL.lt g hf; omega) (fun hp => (h4.2 g hg).2 (.inl hp))⟩ henc hl
theorem last_bk (h : BkS F0 P0 ad w0 c s gen kb root G l L D i e sz enc v x w) (ht : G.total) (hT : TreeE G root D L) : Calls Tryz.prog 33 #[.pointer (some ⟨kb, 0, none⟩)] w fun en w' => en = .returned .nilIface ∧ BkS F0 P0 ad w0 c s gen kb root G l L D ((L.length : Int) - 1) e sz enc v x w' := by
  obtain ⟨F, P, base, sv, st, h1, h2, h3, h4⟩ := h
  obtain ⟨st', e1, e2⟩ := edge_pos true hT
  refine (last_any h1 ht).mono ?_
  rintro e w' ⟨P1, F1, sv1, st1, k1, k2, k3⟩
  rw [e1] at k3
  exact ⟨k3.1, F1, P1, base, sv1, st1, k1, h2.trans k2, by rw [k3.2]; exact e2, h4.nxt k2⟩
theorem next_bk (h : BkS F0 P0 ad w0 c s gen kb root G l L D i e sz enc v x w) (ht : G.total) (hD : D ≤ 16) : Calls Tryz.prog 27 #[.pointer (some ⟨kb, 0, none⟩)] w fun en w' => en = .returned .nilIface ∧ BkS F0 P0 ad w0 c s gen kb root G l L D (stepI L.length i 1) e sz enc v x w' := by
  obtain ⟨F, P, base, sv, st, h1, h2, h3, h4⟩ := h
  obtain ⟨st', e1, e2⟩ := move_off hD h3 1 (.inl rfl)
  refine (next_any h1 (tight_of h3) ht).mono ?_
  rintro e w' ⟨P1, F1, sv1, st1, k1, k2, k3⟩
  rw [e1] at k3
  exact ⟨k3.1, F1, P1, base, sv1, st1, k1, h2.trans k2, by rw [k3.2]; exact e2, h4.nxt k2⟩
theorem prev_bk (h : BkS F0 P0 ad w0 c s gen kb root G l L D i e sz enc v x w) (ht : G.total) (hD : D ≤ 16) : Calls Tryz.prog 29 #[.pointer (some ⟨kb, 0, none⟩)] w fun en w' => en = .returned .nilIface ∧ BkS F0 P0 ad w0 c s gen kb root G l L D (stepI L.length i (-1)) e sz enc v x w' := by
  obtain ⟨F, P, base, sv, st, h1, h2, h3, h4⟩ := h
  obtain ⟨st', e1, e2⟩ := move_off hD h3 (-1) (.inr rfl)
  refine (prev_any h1 (tight_of h3) ht).mono ?_
  rintro e w' ⟨P1, F1, sv1, st1, k1, k2, k3⟩
  rw [e1] at k3
  exact ⟨k3.1, F1, P1, base, sv1, st1, k1, h2.trans k2, by rw [k3.2]; exact e2, h4.nxt k2⟩
theorem seek_bk (h : BkS F0 P0 ad w0 c s gen kb root G l L D i e sz enc v x w) (ht : G.total) (hT : TreeE G root D L) (key : ByteArray) (hb : boundB key = true) : Calls Tryz.prog 26 #[.pointer (some ⟨kb, 0, none⟩), .string key] w fun en w' => en = .returned .nilIface ∧ BkS F0 P0 ad w0 c s gen kb root G l L D (seekP key L : Int) e sz enc v x w' := by
  obtain ⟨F, P, base, sv, st, h1, h2, h3, h4⟩ := h
  obtain ⟨st', e1, e2⟩ := seek_pos key hT
  refine (seekB_any key h1 ht).mono ?_
  rintro e w' ⟨P1, F1, sv1, st1, k1, k2, k3⟩
  have e3 : seekB G (root : Int) key = .inl st' := by unfold seekB; rw [if_pos hb, e1]
  rw [e3] at k3
  exact ⟨k3.1, F1, P1, base, sv1, st1, k1, h2.trans k2, by rw [k3.2]; exact e2, h4.nxt k2⟩
/-- .. as a law's state: for what only reads. -/
theorem BkS.cl (h : BkS F0 P0 ad w0 c s 5 kb root G l L D i e sz enc v x w) : ∃ (F P : Nat → Prop) (base : Nat) (sv : Value) (st : List FrE), CuI F P ad w base c s 5 kb (root : Int) G l sv st ∧ OnPos G L D (st.map FrE.pl) i := by
  obtain ⟨F, P, base, sv, st, h1, h2, h3, h4⟩ := h
  exact ⟨F, P, base, sv, st, h1, h3⟩
theorem on_bk (h : BkS F0 P0 ad w0 c s gen kb root G l L D i e sz enc v x w) : Calls Tryz.prog 28 #[.pointer (some ⟨kb, 0, none⟩)] w fun en w' => en = .returned (.bool (onI L.length i)) ∧ w = w' := by
  obtain ⟨F, P, base, sv, st, h1, h2, h3, h4⟩ := h
  have : (!st.isEmpty) = onI L.length i := by
    rcases h3.le with ⟨h4, k, rfl, n, a, r, pre, p, suf, lo, hi, e, _⟩ | ⟨h4, h5⟩
    · rw [h4]
      cases st with
      | nil => simp at e
      | cons x r => rfl
    · rw [h4]
      rw [List.map_eq_nil_iff] at h5
      rw [h5]; rfl
  rw [← this]
  exact on_any h1
theorem key_bk (h : BkS F0 P0 ad w0 c s gen kb root G l L D i e sz enc v x w) {k : Nat} {y : PairS} (hi : i = (k : Int)) (hx : L[k]? = some y) : Calls Tryz.prog 39 #[.pointer (some ⟨kb, 0, none⟩)] w fun en w' => en = .returned (.string y.1) ∧ ∃ q, w' = w.drewN q := by
  obtain ⟨F, P, base, sv, st, h1, h2, h3, _⟩ := h
  subst hi
  have hk := (List.getElem?_eq_some_iff.1 hx).1
  rcases h3 with ⟨_, _, h4⟩ | ⟨h4, _⟩
  · rw [Int.toNat_natCast] at h4
    obtain ⟨n, a, r, e, z, e1, e2, e3, e4, e5, e6, e7, e8⟩ := h4.pair
    rw [hx] at e3
    injection e3 with e3
    subst e3
    cases st with
    | nil => simp at e1
    | cons z st =>
      rw [List.map_cons] at e1
      injection e1 with e1 _
      have ha := congrArg Prod.snd e1
      have hn := congrArg Prod.fst e1
      rw [← e4]
      exact key_on h1 ha (by rw [show z.node = n from hn]; exact e2)
  · omega
end
end Go.Proofs.YtepafbokbfcbgaaGreatDoor
namespace Go.Proofs.YtepafbokbfcbgaaGreatDoor
open Go.RowKit
attribute [local go_sem ↓] Go.wp_at_zero Go.wp_at_succ
/-- keys from a place on back. -/
def downK (L : List PairS) : Nat → Nat → List ByteArray
  | 0, _ => []
  | _, 0 => []
  | i + 1, m + 1 => match L[i]? with
    | none => []
    | some x => x.1 :: downK L i m
/-- where a row back begins: how many pairs are not behind it. -/
def fromN (L : List PairS) (key : ByteArray) : Nat :=
  if key = ⟨#[]⟩ then L.length else match L[seekP key L]? with
    | none => L.length
    | some x => if x.1 = key then seekP key L + 1 else seekP key L
def BackD (F P : Nat → Prop) (ad : Nat → Addr) (w : World) (c s : Nat) (G : GA) (l : List Nat) (o : List ByteArray) (e : Ending) (w' : World) : Prop :=
  PgDone F P ad w c s G l (fun F' w' e => ∃ v, e = .returned (.tuple #[v, .nilIface]) ∧ Sl F' w' 1 encS v o) e w'
theorem stepI_at {n k : Nat} (h : k < n) (b : Int) : stepI n (k : Int) b = (k : Int) + b := by
  unfold stepI
  exact if_pos (decide_eq_true ⟨by omega, by omega⟩)
theorem onI_off {n : Nat} {i : Int} (h : i < 0 ∨ (n : Int) ≤ i) : onI n i = false := decide_eq_false (by omega)
section
variable {F P P' F' P1 F1 : Nat → Prop} {ad : Nat → Addr} {w w' w0 w1 : World} {c s gen : Nat} {root D : Nat} {G : GA} {l : List Nat} {L : List PairS}
theorem fromN_le (L : List PairS) (key : ByteArray) : fromN L key ≤ L.length := by
  unfold fromN
  split
  · exact Nat.le_refl _
  · split
    · exact Nat.le_refl _
    · rename_i x hx
      have := (List.getElem?_eq_some_iff.1 hx).1
      split <;> omega
set_option maxRecDepth 100000 in
set_option maxHeartbeats 4000000 in
theorem back_any (hL : Env F ad w) (hP : ∀ k, P k → F k) (h : PgR F w P c s G l) (hlen : L.length ≤ 1000) (ht : G.total) (hD : D ≤ 16) (hT : TreeE G root D L) (gen : Nat) (from_ : ByteArray) (most : Int) (hm : askB from_ ⟨#[]⟩ most = true) :
    Calls Tryz.prog 19 #[pgV c s gen, .int .i64 (root : Int), .string from_, .int .i64 most] w (BackD F P ad w c s G l (downK L (fromN L from_) most.toNat)) := by
  have m0 : Ext w (w.alloc (.cells #[.pointer (some ⟨c, 0, none⟩), .pointer (some ⟨s, 0, none⟩), .int .u64 (gen : Int)] 34)) := (Mods.refl _ w).alloc _
  have HN0 := Lib.hid (Nxt.ext hL hP m0)
  have HL0 := Lib.hid hL
  have hOP := fun op => open_cur HN0.out.env hP (h.at m0) gen (root : Int) op from_ ⟨#[]⟩ most
  rw [hm] at hOP
  have HOP := Lib.hid hOP
  have hbq : boundB from_ = true := by unfold askB at hm; simp only [Bool.and_eq_true] at hm; exact hm.1.1.1
  have hm1 : 0 ≤ most := by unfold askB at hm; simp only [Bool.and_eq_true, decide_eq_true_eq] at hm; omega
  obtain ⟨N, rfl⟩ : ∃ N : Nat, most = (N : Int) := ⟨most.toNat, by omega⟩
  have HB := Lib.hid hbq
  have HG := Lib.hid ht
  have HT := Lib.hid hT
  have HD := Lib.hid hD
  have hfl := fromN_le L from_
  have HFL := Lib.hid hfl
  rw [Int.toNat_natCast]
  obtain ⟨B, hBe⟩ : ∃ B, B = fromN L from_ := ⟨_, rfl⟩
  have HBE := Lib.hid hBe
  rw [← hBe] at hfl ⊢
  clear hL hP h m0 hOP hm hbq hm1 ht hD hT hBe
  unfold pgV at HOP ⊢
  go_enter Tryz.func19, Tryz.ntmps19
  go_wp2_with fail
  refine (HOP.out _).mono ?_
  rintro e w1 hd
  obtain ⟨kb, base, F1, rfl, h1, n1⟩ : NewD F P ad (w.alloc (.cells #[.pointer (some ⟨c, 0, none⟩), .pointer (some ⟨s, 0, none⟩), .int .u64 (gen : Int)] 34)) c s gen (root : Int) G l e w1 := by
    rcases hd with ⟨_, h⟩ | ⟨h, _⟩
    · exact h
    · cases h
  have hS1 : BkS F P ad w c s gen kb root G l L D (-1) 9 1 encS (.slice none 0 0) [] w1 := ⟨F1, P, base, _, [], h1, HN0.out.trans n1, .inr ⟨.inl (by omega), rfl⟩, LocR.nil _ _ _ _ _ _ _⟩
  have HSK := Lib.hid (seek_bk hS1 HG.out HT.out from_ HB.out)
  clear hd h1 n1 hS1
  go_wp2_with fail
  refine (HSK.out).mono ?_
  rintro e w2 ⟨rfl, hS⟩
  have HS2 := Lib.hid hS
  clear hS
  go_upto_block 0 with fail
  go_cut [11] (fun v11 wx => v11 = .nilIface ∧ Hid (BkS F P ad w c s gen kb root G l L D ((B : Int) - 1) 9 1 encS (.slice none 0 0) [] wx))
  case first =>
    by_cases he : from_ = ⟨#[]⟩
    · have h2 : from_.toList.isEmpty = true := by rw [he]; simp [ByteArray.toList_eq]
      have HBL : Hid (B = L.length) := Lib.hid (by rw [HBE.out]; unfold fromN; rw [if_pos he])
      have HLA := Lib.hid (last_bk HS2.out HG.out HT.out)
      rw [← HBL.out] at HLA
      clear he
      go_wp2_with fail
      refine (HLA.out).mono ?_
      rintro e w3 ⟨rfl, hS⟩
      have HS3 := Lib.hid hS
      clear hS
      go_wp2_with fail
      go_meet
      exact ⟨rfl, HS3⟩
    · have h1 : from_.toList ≠ [] := fun e => he (toList_inj (by rw [e]; simp [ByteArray.toList_eq]))
      have h2 : from_.toList.isEmpty = false := by
        cases hs : from_.toList with
        | nil => exact absurd hs h1
        | cons _ _ => rfl
      have h3 : (from_.toList == []) = false := beq_eq_false_iff_ne.2 h1
      have hon := on_bk HS2.out
      cases hz : L[seekP from_ L]? with
      | none =>
        have HBL : Hid (B = L.length) := Lib.hid (by rw [HBE.out]; unfold fromN; rw [if_neg he, hz])
        have HLA := Lib.hid (last_bk HS2.out HG.out HT.out)
        rw [← HBL.out] at HLA
        have hof : onI L.length (seekP from_ L : Int) = false := onI_off (.inr (by have := List.getElem?_eq_none_iff.1 hz; omega))
        rw [hof] at hon
        have HON := Lib.hid hon
        clear he hz hof hon h1
        go_wp2_with fail
        refine (HON.out).mono ?_
        rintro e w3 ⟨rfl, rfl⟩
        go_wp2_with fail
        refine (HLA.out).mono ?_
        rintro e w3 ⟨rfl, hS⟩
        have HS3 := Lib.hid hS
        clear hS
        go_wp2_with fail
        go_meet
        exact ⟨rfl, HS3⟩
      | some y =>
        have hzl := (List.getElem?_eq_some_iff.1 hz).1
        have hof : onI L.length (seekP from_ L : Int) = true := decide_eq_true ⟨by omega, by omega⟩
        rw [hof] at hon
        have HON := Lib.hid hon
        have HKY := Lib.hid (key_bk HS2.out rfl hz)
        have hpv := fun k3 => prev_bk (HS2.out.ext ((Mods.refl _ w2).drewN k3)) HG.out HD.out
        rw [stepI_at hzl, show (seekP from_ L : Int) + -1 = (seekP from_ L : Int) - 1 from rfl] at hpv
        by_cases hy : y.1 = from_
        · have HBL : Hid (B = seekP from_ L + 1) := Lib.hid (by rw [HBE.out]; unfold fromN; rw [if_neg he, hz]; simp only; rw [if_pos hy])
          have hy2 : (y.1.toList == from_.toList) = true := by rw [hy, beq_iff_eq]
          clear he hz hof hon h1 hpv hy hzl
          go_wp2_with fail
          refine (HON.out).mono ?_
          rintro e w3 ⟨rfl, rfl⟩
          go_wp2_with fail
          refine (HKY.out).mono ?_
          rintro e w3 ⟨rfl, k3, rfl⟩
          go_wp2_with fail
          go_meet
          exact ⟨rfl, Lib.hid (by rw [show ((B : Int) - 1) = (seekP from_ L : Int) by have := HBL.out; omega]; exact HS2.out.ext ((Mods.refl _ _).drewN _))⟩
        · have HBL : Hid (B = seekP from_ L) := Lib.hid (by rw [HBE.out]; unfold fromN; rw [if_neg he, hz]; simp only; rw [if_neg hy])
          have hy2 : (y.1.toList == from_.toList) = false := by rw [beq_eq_false_iff_ne]; exact fun e => hy (toList_inj e)
          rw [← HBL.out] at hpv
          have HPV := Lib.hid hpv
          clear he hz hof hon h1 hpv hy hzl
          go_wp2_with fail
          refine (HON.out).mono ?_
          rintro e w3 ⟨rfl, rfl⟩
          go_wp2_with fail
          refine (HKY.out).mono ?_
          rintro e w3 ⟨rfl, k3, rfl⟩
          go_wp2_with fail
          refine (HPV.out k3).mono ?_
          rintro e w4 ⟨rfl, hS⟩
          have HS4 := Lib.hid hS
          clear hS
          go_wp2_with fail
          go_meet
          exact ⟨rfl, HS4⟩
  obtain ⟨rfl, HC⟩ := hcut
  go_wp2_with fail
  go_loopg [11, 12] B (fun m v11 v12 wr => ∃ (o : List ByteArray), m ≤ B ∧ v11 = .nilIface ∧ o.length ≤ N ∧ o.length + m ≤ 1000 ∧ Hid (BkS F P ad w c s gen kb root G l L D ((m : Int) - 1) 9 1 encS v12 o wr ∧ o ++ downK L m (N - o.length) = downK L B N))
  case atStart => exact ⟨[], Nat.le_refl _, rfl, Nat.zero_le _, by simp; omega, Lib.hid ⟨HC.out, rfl⟩⟩
  case round =>
    obtain ⟨o, hmB, rfl, hoN, ho1, HR⟩ := hrel
    obtain ⟨va, vc, rfl, vq1, vq2⟩ := HR.out.1.own.form
    have HW : Hid (w.heap.size ≤ wr.heap.size) := Lib.hid HR.out.1.ext0
    cases hgk : gk with
    | zero =>
      rw [hgk] at HR
      have hon := on_bk HR.out.1
      rw [onI_off (.inl (by omega))] at hon
      have HON := Lib.hid hon
      have HO : Hid (o = downK L B N) := Lib.hid (by
        rw [← HR.out.2]
        cases N - o.length <;> simp [downK])
      clear hon hgk vq1 vq2
      go_wp2_with fail
      refine (HON.out).mono ?_
      rintro e w5 ⟨rfl, rfl⟩
      go_wp2_with fail
      refine bodyPost_ret (v := .tuple #[.slice va o.length vc, .nilIface]) (by simp [results, Tryz.results19, go_sem]) rfl ?_
      obtain ⟨P9, g1, g2, g3⟩ := HR.out.1.done HL0.out encS_ok.len (by omega)
      exact ⟨P9, _, g1, g2, _, rfl, by rw [← HO.out]; exact g3⟩
    | succ q =>
      rw [hgk] at HR hmB ho1
      have hql : q < L.length := by omega
      have hy := List.getElem?_eq_getElem hql
      obtain ⟨y, hye⟩ : ∃ y, y = L[q] := ⟨_, rfl⟩
      rw [← hye] at hy
      have hon := on_bk HR.out.1
      rw [show (((q + 1 : Nat) : Int) - 1) = (q : Int) by omega] at HR hon
      have hof : onI L.length (q : Int) = true := decide_eq_true ⟨by omega, by omega⟩
      rw [hof] at hon
      have HON := Lib.hid hon
      by_cases hlt : o.length < N
      · have HKY := Lib.hid (key_bk HR.out.1 rfl hy)
        have HY := Lib.hid hy
        have i1 : (o.length : Int) < (N : Int) := by omega
        have HQL := Lib.hid hql
        have HGK := Lib.hid hgk
        have HLT := Lib.hid hlt
        clear hon hgk hy hye hof vq1 vq2 hlt
        go_wp2_with fail
        refine (HON.out).mono ?_
        rintro e w5 ⟨rfl, rfl⟩
        go_wp2_with fail
        refine (HKY.out).mono ?_
        rintro e w5 ⟨rfl, k5, rfl⟩
        have HS5 := Lib.hid ((HR.out.1.ext ((Mods.refl _ wr).drewN k5)).ext ((Mods.refl _ _).alloc (.cells #[.string y.1] 9)))
        go_wp2_with (at_builtin; refine wpl_app2 Tryz.elS encS_ok rfl _ _ rfl w.heap.size _ _ o [y.1] rfl rfl HS5.out.own (Sl.one (F := fun _ => False) (heap_at (by simp)) (fun f => f)) (by simp only [List.length_cons, List.length_nil]; omega) HS5.out.ext0 (fun f => f) ?_; simp only [List.length_cons, List.length_nil, Nat.zero_add]; intro a6 c6 w6 hO6 hm6 hat6)
        have HS6 := Lib.hid (HS5.out.app hO6 hm6 hat6 (Nat.le_refl _))
        have hpv := prev_bk HS6.out HG.out HD.out
        rw [stepI_at HQL.out, show (q : Int) + -1 = (q : Int) - 1 from rfl] at hpv
        have HPV := Lib.hid hpv
        clear hO6 hm6 hat6 hpv
        go_wp2_with fail
        refine (HPV.out).mono ?_
        rintro e w7 ⟨rfl, hS7⟩
        have HS7 := Lib.hid hS7
        clear hS7
        go_wp2_with fail
        go_roundg q
        case measure => have := HGK.out; omega
        case rel => exact ⟨o ++ [y.1], by omega, rfl, by have := HLT.out; simp; omega, by simp; omega, Lib.hid ⟨by simpa using HS7.out, by
          rw [← HR.out.2]
          obtain ⟨r, hr⟩ : ∃ r, N - o.length = r + 1 := ⟨N - o.length - 1, by have := HLT.out; omega⟩
          have hr2 : N - (o ++ [y.1]).length = r := by simp; omega
          rw [hr, hr2, downK, HY.out]
          simp⟩⟩
      · have i1 : ¬ (o.length : Int) < (N : Int) := by omega
        have HO : Hid (o = downK L B N) := Lib.hid (by
          rw [← HR.out.2, show N - o.length = 0 by omega]
          simp [downK])
        clear hon hgk hy hye hof vq1 vq2 hlt
        go_wp2_with fail
        refine (HON.out).mono ?_
        rintro e w5 ⟨rfl, rfl⟩
        go_wp2_with fail
        refine bodyPost_ret (v := .tuple #[.slice va o.length vc, .nilIface]) (by simp [results, Tryz.results19, go_sem]) rfl ?_
        obtain ⟨P9, g1, g2, g3⟩ := HR.out.1.done HL0.out encS_ok.len (by omega)
        exact ⟨P9, _, g1, g2, _, rfl, by rw [← HO.out]; exact g3⟩
set_option maxRecDepth 100000 in
theorem back_bad (hL : Env F ad w) (hP : ∀ k, P k → F k) (h : PgR F w P c s G l) (gen : Nat) (root : Int) (from_ : ByteArray) (most : Int) (hm : askB from_ ⟨#[]⟩ most = false) :
    Calls Tryz.prog 19 #[pgV c s gen, .int .i64 root, .string from_, .int .i64 most] w (PgDone F P ad w c s G l (fun F' w' e => ∃ b, e = .returned (.tuple #[.slice none 0 0, faultV b]) ∧ ErrC F' ad w' (faultV b) [-1] 2)) := by
  have m0 : Ext w (w.alloc (.cells #[.pointer (some ⟨c, 0, none⟩), .pointer (some ⟨s, 0, none⟩), .int .u64 (gen : Int)] 34)) := (Mods.refl _ w).alloc _
  have HN0 := Lib.hid (Nxt.ext hL hP m0)
  have hOP := fun op => open_cur HN0.out.env hP (h.at m0) gen root op from_ ⟨#[]⟩ most
  rw [hm] at hOP
  have HOP := Lib.hid hOP
  clear hL hP h m0 hOP hm
  unfold pgV at HOP ⊢
  go_enter Tryz.func19, Tryz.ntmps19
  go_wp2_with fail
  refine (HOP.out _).mono ?_
  rintro e w1 hd
  obtain ⟨b, F1, rfl, hG1, hN1, hE1⟩ : ∃ b F', e = .returned (.tuple #[.pointer none, faultV b]) ∧ PgR F' w1 P c s G l ∧ Nxt P P F F' ad (w.alloc (.cells #[.pointer (some ⟨c, 0, none⟩), .pointer (some ⟨s, 0, none⟩), .int .u64 (gen : Int)] 34)) w1 ∧ ErrC F' ad w1 (faultV b) [-1] 2 := by
    rcases hd with ⟨h, _⟩ | ⟨_, h⟩
    · cases h
    · exact h
  have HG1 := Lib.hid hG1
  have HN1 := Lib.hid (HN0.out.trans hN1)
  have HE1 := Lib.hid hE1
  clear hd hG1 hN1 hE1
  go_wp2_with fail
  refine bodyPost_ret (v := .tuple #[.slice none 0 0, faultV b]) (by simp [results, Tryz.results19, go_sem]) rfl ?_
  exact ⟨P, F1, HG1.out, HN1.out, b, rfl, HE1.out⟩
end
end Go.Proofs.YtepafbokbfcbgaaGreatDoor
namespace Go.Proofs.YtepafbokbfcbgaaGreatDoor
open Go.RowKit
attribute [local go_sem ↓] Go.wp_at_zero Go.wp_at_succ
/-- may a key stand in a row back from a text? -/
def atMost (from_ k : ByteArray) : Bool := decide (from_ = ⟨#[]⟩) || leS k from_
/-- by definition: the keys back from an end, those that may stand there. -/
def backK (L : List PairS) (from_ : ByteArray) : Nat → Nat → List ByteArray
  | 0, _ => []
  | _, 0 => []
  | i + 1, m + 1 => match L[i]? with
    | none => []
    | some x => if atMost from_ x.1 = true then x.1 :: backK L from_ i m else backK L from_ i (m + 1)
theorem backK_low {L : List PairS} {from_ : ByteArray} : ∀ {i m : Nat}, (∀ (j : Nat) (x : PairS), j < i → L[j]? = some x → atMost from_ x.1 = true) → backK L from_ i m = downK L i m
  | 0, _, _ => by simp [backK, downK]
  | i + 1, 0, _ => by simp [backK, downK]
  | i + 1, m + 1, h => by
    rw [backK, downK]
    cases hx : L[i]? with
    | none => rfl
    | some x =>
      simp only
      rw [if_pos (h i x (by omega) hx), backK_low (fun j x hj hx => h j x (by omega) hx)]
theorem backK_high {L : List PairS} {from_ : ByteArray} {b : Nat} : ∀ {i m : Nat}, b ≤ i → i ≤ L.length → (∀ (j : Nat) (x : PairS), b ≤ j → L[j]? = some x → atMost from_ x.1 = false) → backK L from_ i m = backK L from_ b m
  | 0, m, hb, _, _ => by rw [show b = 0 by omega]
  | i + 1, 0, hb, hl, h => by
    have e1 : ∀ k, backK L from_ k 0 = [] := fun k => by cases k <;> simp [backK]
    rw [e1, e1]
  | i + 1, m + 1, hb, hl, h => by
    by_cases hbi : b = i + 1
    · rw [hbi]
    · rw [backK]
      have hx : L[i]? = some L[i] := List.getElem?_eq_getElem (by omega)
      rw [hx]
      simp only
      rw [if_neg (by rw [h i _ (by omega) hx]; simp)]
      exact backK_high (by omega) (by omega) h
theorem backK_from {L : List PairS} (hs : SortedP L) (from_ : ByteArray) (m : Nat) : backK L from_ L.length m = downK L (fromN L from_) m := by
  have hpw : ∀ (i j : Nat) (x y : PairS), i < j → L[i]? = some x → L[j]? = some y → ltS x.1 y.1 = true := fun i j x y hij hx hy => by
    obtain ⟨h1, rfl⟩ := List.getElem?_eq_some_iff.1 hx
    obtain ⟨h2, rfl⟩ := List.getElem?_eq_some_iff.1 hy
    exact List.pairwise_iff_getElem.1 hs i j h1 h2 hij
  by_cases he : from_ = ⟨#[]⟩
  · have : fromN L from_ = L.length := by unfold fromN; rw [if_pos he]
    rw [this]
    exact backK_low (fun j x _ _ => by unfold atMost; rw [decide_eq_true he]; rfl)
  · have hat : ∀ k, atMost from_ k = !ltS from_ k := fun k => by
      unfold atMost
      rw [decide_eq_false he, Bool.false_or]
      have := notLe k from_
      cases h : leS k from_ <;> rw [h] at this <;> simp_all
    have hle := fromN_le L from_
    rw [backK_high hle (Nat.le_refl _) (fun j x hj hx => ?_)]
    · refine backK_low (fun j x hj hx => ?_)
      rw [hat]
      have hjl := (List.getElem?_eq_some_iff.1 hx).1
      have hlow : ∀ (j : Nat) (x : PairS), j < seekP from_ L → L[j]? = some x → ltS x.1 from_ = true := fun j x hj hx => by
        have := findIdx_lt (f := fun x : PairS => !ltS x.1 from_) (l := L) (i := j) hj hx
        simpa using this
      have hfin : ltS x.1 from_ = true ∨ x.1 = from_ := by
        unfold fromN at hj
        rw [if_neg he] at hj
        split at hj
        · rename_i hz
          have := List.getElem?_eq_none_iff.1 hz
          exact .inl (hlow j x (by omega) hx)
        · rename_i y hz
          split at hj
          · rename_i hy
            by_cases hjz : j = seekP from_ L
            · subst hjz; rw [hz] at hx; injection hx with hx; subst hx; exact .inr hy
            · exact .inl (hlow j x (by omega) hx)
          · exact .inl (hlow j x hj hx)
      rcases hfin with h | rfl
      · cases h2 : ltS from_ x.1 with
        | false => rfl
        | true => have := ltS_trans h h2; exact absurd rfl (ltS_ne this)
      · cases h2 : ltS x.1 x.1 with
        | false => rfl
        | true => exact absurd rfl (ltS_ne h2)
    · rw [hat]
      have hgt : ltS from_ x.1 = true := by
        unfold fromN at hj
        rw [if_neg he] at hj
        split at hj
        · rename_i hz
          have := (List.getElem?_eq_some_iff.1 hx).1
          omega
        · rename_i y hz
          have hy0 : (!ltS y.1 from_) = true := findIdx_at (f := fun x : PairS => !ltS x.1 from_) (l := L) hz
          have hy1 : ltS y.1 from_ = false := by simpa using hy0
          split at hj
          · rename_i hy
            rw [← hy]
            exact hpw _ _ y x (by omega) hz hx
          · rename_i hy
            have hyg : ltS from_ y.1 = true := by
              rcases not_ltS hy1 with h | h
              · exact h
              · exact absurd h.symm (fun e => hy (by first | exact e | exact e.symm))
            by_cases hjz : j = seekP from_ L
            · subst hjz; rw [hz] at hx; injection hx with hx; subst hx; exact hyg
            · exact ltS_trans hyg (hpw _ _ y x (by omega) hz hx)
      rw [hgt]
      rfl
set_option maxRecDepth 100000 in
set_option maxHeartbeats 1000000 in
theorem back12_any {F : Nat → Prop} {w : World} (L : List PairS) (lv : Value) (hl : Sl F w 2 encP lv L) (hlen : L.length ≤ 1000) (from_ : ByteArray) (N : Nat) (hN : N ≤ 65535) :
    Calls Tryz.prog 23 #[lv, .string from_, .int .i64 (N : Int)] w fun e w' => ∃ kv, e = .returned kv ∧ Own (fun _ => False) w' w.heap.size 9 1 encS kv (backK L from_ L.length N) ∧ Ext w w' := by
  have HQ := Lib.hid hl
  obtain ⟨qa, qc, rfl, b1, b2, b3, -⟩ := hl
  unfold maxLen at b2
  have HO0 : Hid (Own (fun _ => False) (w.alloc (.cells #[] 9)) w.heap.size 9 1 encS (.slice (some ⟨w.heap.size, 0, none⟩) 0 0) ([] : List ByteArray)) := Lib.hid (Own.empty (fun k f => f.elim) _ _ _ encS_ok.len)
  have HM0 : Hid (Ext w (w.alloc (.cells #[] 9))) := Lib.hid ((Mods.refl _ w).alloc _)
  have u1 : IntKind.i64.wrap ((L.length : Int) - 1) = (L.length : Int) - 1 := by rw [IntWalk.i64_in _ (by omega)]
  go_enter Tryz.func23, Tryz.ntmps23
  go_wp2_with fail
  go_loopg [7, 8] L.length (fun m v7 v8 wr => ∃ (z : Int) (o : List ByteArray), z < (m : Int) ∧ (m : Int) < z + 2 ∧ m ≤ L.length ∧ v8 = .int .i64 z ∧ o.length + m ≤ L.length ∧ Hid (Own (fun _ => False) wr w.heap.size 9 1 encS v7 o ∧ Ext w wr ∧ o.length ≤ N ∧ o ++ backK L from_ m (N - o.length) = backK L from_ L.length N))
  case atStart => exact ⟨(L.length : Int) - 1, [], by omega, by omega, Nat.le_refl _, rfl, by simp, Lib.hid ⟨HO0.out, HM0.out, Nat.zero_le _, rfl⟩⟩
  case round =>
    obtain ⟨z, o, hz1, hz2, hz3, rfl, ho1, HR⟩ := hrel
    obtain ⟨va, vc, rfl, vq1, vq2⟩ := HR.out.1.form
    have HW : Hid (w.heap.size ≤ wr.heap.size) := Lib.hid HR.out.2.1.size
    cases hgk : gk with
    | zero =>
      have hz : z = -1 := by omega
      subst hz
      rw [hgk] at HR
      have HO : Hid (o = backK L from_ L.length N) := Lib.hid (by rw [← HR.out.2.2.2]; simp [backK])
      clear hgk vq1 vq2 hz1 hz2
      go_wp2_with fail
      go_ret
      exact ⟨_, rfl, by rw [← HO.out]; exact HR.out.1, HR.out.2.1⟩
    | succ q =>
      have hz : z = (q : Int) := by omega
      subst hz
      rw [hgk] at HR
      have hql : q < L.length := by omega
      by_cases hlt : o.length < N
      · have i1 : (o.length : Int) < (N : Int) := by omega
        have i2 : (0 : Int) ≤ (q : Int) := by omega
        have i3 : (q : Int) < (L.length : Int) := by omega
        have i4 : decide ((q : Int) ≥ 0) = true := decide_eq_true (by omega)
        have u2 : IntKind.i64.wrap ((q : Int) - 1) = (q : Int) - 1 := by rw [IntWalk.i64_in _ (by omega)]
        obtain ⟨y, hy⟩ : ∃ y, y = L[q] := ⟨_, rfl⟩
        obtain ⟨qb, qoff, hqa, hc⟩ := HQ.out.elem hql HR.out.2.1
        have d0 := hc 0 (.string y.1) (by rw [hy]; rfl)
        simp only [Nat.add_zero] at d0
        have HY : Hid (L[q]? = some y) := Lib.hid (by rw [hy]; exact List.getElem?_eq_getElem hql)
        have HGK := Lib.hid hgk
        have HLT := Lib.hid hlt
        obtain ⟨r, hr⟩ : ∃ r, N - o.length = r + 1 := ⟨N - o.length - 1, by omega⟩
        have HRR := Lib.hid hr
        have HZ := Lib.hid (And.intro hz3 ho1)
        subst hqa
        cases ham : atMost from_ y.1 with
        | true =>
          have HE : Hid (o ++ [y.1] ++ backK L from_ q r = backK L from_ L.length N) := Lib.hid (by
            rw [← HR.out.2.2.2, HRR.out, backK, HY.out]
            simp only
            rw [if_pos ham]
            simp)
          have HOW := Lib.hid (HR.out.1.ext ((Mods.refl _ wr).alloc (.cells #[.string y.1] 9)))
          have hway : (from_.toList.isEmpty = true) ∨ (from_.toList.isEmpty = false ∧ (Op.bytesLess y.1.toList from_.toList || y.1.toList == from_.toList) = true) := by
            cases hfe : from_.toList.isEmpty with
            | true => exact .inl rfl
            | false =>
              refine .inr ⟨rfl, ?_⟩
              unfold atMost at ham
              have hne : from_ ≠ ⟨#[]⟩ := fun e => by rw [e] at hfe; simp [ByteArray.toList_eq] at hfe
              rw [decide_eq_false hne, Bool.false_or] at ham
              exact ham
          clear hc hy ham hr hlt hgk vq1 vq2 hz1 hz2 hz3 ho1
          rcases hway with hfe | ⟨hfe, hle⟩
          all_goals
            go_wp2_with (first
              | (at_builtin; refine wpl_app2 Tryz.elS encS_ok rfl _ _ rfl w.heap.size _ _ o [y.1] rfl rfl HOW.out (Sl.one (F := fun _ => False) (heap_at (by simp)) (fun f => f)) (by have := HZ.out.2; simp only [List.length_cons, List.length_nil]; omega) (by have := HW.out; simp; omega) (fun f => f) ?_; simp only [List.length_cons, List.length_nil, Nat.zero_add]; intro a6 c6 w6 hO6 hm6 hat6; have HO6 := Lib.hid hO6; have HM6 := Lib.hid hm6; clear hO6 hm6 hat6)
              | fail)
            go_roundg q
            case measure => have := HGK.out; omega
            case rel =>
              refine ⟨(q : Int) - 1, o ++ [y.1], by omega, by omega, by have := HZ.out.1; omega, rfl, by have := HZ.out.2; have := HGK.out; simp; omega, Lib.hid ⟨by simpa using HO6.out, (HR.out.2.1.alloc _).trans' HM6.out (fun i hi e => by have := (HR.out.1.lt i e).1; omega), by have := HLT.out; simp; omega, ?_⟩⟩
              have hr2 : N - (o ++ [y.1]).length = r := by have := HRR.out; simp; omega
              rw [hr2]
              exact HE.out
        | false =>
          have HE : Hid (o ++ backK L from_ q (N - o.length) = backK L from_ L.length N) := Lib.hid (by
            rw [← HR.out.2.2.2, HRR.out, backK, HY.out]
            simp only
            rw [if_neg (by rw [ham]; simp)])
          have hfe : from_.toList.isEmpty = false := by
            cases hfe : from_.toList.isEmpty with
            | false => rfl
            | true =>
              have he : from_ = ⟨#[]⟩ := toList_inj (by rw [List.isEmpty_iff.1 hfe]; simp [ByteArray.toList_eq])
              unfold atMost at ham
              rw [decide_eq_true he] at ham
              cases ham
          have hle : (Op.bytesLess y.1.toList from_.toList || y.1.toList == from_.toList) = false := by
            unfold atMost at ham
            rw [Bool.or_eq_false_iff] at ham
            exact ham.2
          clear hc hy ham hr hlt hgk vq1 vq2 hz1 hz2 hz3 ho1
          go_wp2_with fail
          go_roundg q
          case measure => have := HGK.out; omega
          case rel => exact ⟨(q : Int) - 1, o, by omega, by omega, by have := HZ.out.1; omega, rfl, by have := HZ.out.2; have := HGK.out; omega, Lib.hid ⟨HR.out.1, HR.out.2.1, HR.out.2.2.1, HE.out⟩⟩
      · have i1 : ¬ (o.length : Int) < (N : Int) := by omega
        have i4 : decide ((q : Int) ≥ 0) = true := decide_eq_true (by omega)
        have HO : Hid (o = backK L from_ L.length N) := Lib.hid (by
          rw [← HR.out.2.2.2, show N - o.length = 0 by omega]
          simp [backK])
        clear hgk vq1 vq2 hz1 hz2 hlt
        go_wp2_with fail
        go_ret
        exact ⟨_, rfl, by rw [← HO.out]; exact HR.out.1, HR.out.2.1⟩
end Go.Proofs.YtepafbokbfcbgaaGreatDoor
namespace Go.Proofs.YtepafbokbfcbgaaGreatDoor
open Go.RowKit
attribute [local go_sem ↓] Go.wp_at_zero Go.wp_at_succ
theorem askB_one (a : ByteArray) (most : Int) : askB a ⟨#[]⟩ most = (boundB a && !decide (most < 0) && !decide (most > 65535)) := by
  unfold askB
  have : boundB ⟨#[]⟩ = true := rfl
  rw [this, Bool.and_true]
  congr 1
  · congr 1
    by_cases h : most < 0
    · rw [decide_eq_true h, decide_eq_false (by omega)]; rfl
    · rw [decide_eq_false h, decide_eq_true (by omega)]; rfl
  · by_cases h : most > 65535
    · rw [decide_eq_true h, decide_eq_false (by omega)]; rfl
    · rw [decide_eq_false h, decide_eq_true (by omega)]; rfl
set_option maxRecDepth 100000 in
set_option maxHeartbeats 4000000 in
theorem CursorFalls_any {ad : Nat → Addr} {w : World} (hL : Env NoB ad w) (hfu : Full ad) (l : List PairS) (lv : Value) (hl : Sl NoB w 2 encP lv l) (E K : Nat) (hE : E < 256) (hK : K < 256) (from_ to_ : ByteArray) (most : Int) :
    Calls Tryz.prog 4 #[.agg #[lv, .int .u8 (E : Int), .int .u8 (K : Int)], .agg #[.string from_, .string to_, .int .i64 most]] w fun e w' => e = .returned (.bool true) ∧ Ext w w' := by
  have m0 : Ext w ((w.alloc (.cells #[lv, .int .u8 (E : Int), .int .u8 (K : Int)] 50)).alloc (.cells #[.string from_, .string to_, .int .i64 most] 52)) := ((Mods.refl _ w).alloc _).alloc _
  have HL := Lib.hid (hL.mods m0.ext)
  have HFU := Lib.hid hfu
  have hT0 := tree_on (tameP_ok 300 l) (e := 1 + E % 3) (k := 2 + K % 3) (by omega) (by omega) (by omega) (by omega)
  have HT := Lib.hid hT0
  have HTE := Lib.hid (hT0.full (by omega) (by omega) (by omega) (by omega))
  have HBC := Lib.hid (built12_any l lv (hl.ext m0) E K hE hK)
  have HM0 := Lib.hid m0
  have HAB : Hid (Blk ((w.alloc (.cells #[lv, .int .u8 (E : Int), .int .u8 (K : Int)] 50)).alloc (.cells #[.string from_, .string to_, .int .i64 most] 52)) (w.heap.size + 1) #[.string from_, .string to_, .int .i64 most] 52) := Lib.hid (heap_at (by simp))
  have HBD := Lib.hid (bound12_any from_)
  obtain ⟨la, lc, rfl, _, _, _, _⟩ := hl
  clear hL hfu m0 hT0
  go_enter Tryz.func4, Tryz.ntmps4
  go_wp2_with fail
  refine (HBC.out).mono ?_
  rintro e w1 ⟨pv, xs, vl, rfl, hP, hxs, hO, hm1⟩
  obtain ⟨q, hq⟩ : ∃ q, q = tameP 300 l := ⟨_, rfl⟩
  rw [← hq] at hxs HT HTE hO ⊢
  obtain ⟨r, hr⟩ : ∃ r, r = buildA 5 (1 + E % 3) (2 + K % 3) q := ⟨_, rfl⟩
  rw [← hr] at hxs HT HTE ⊢
  have HM1 := Lib.hid hm1
  have hpu := HT.out.puts
  rw [← hxs] at hpu
  have hln : xs.length ≤ 1000 := by have := HT.out.few; rw [← hxs, List.length_map] at this; omega
  have hql : q.length ≤ 1000 := by have := HT.out.tame.len; omega
  obtain ⟨hsl, hbs⟩ := hP.pages hln (fun x hx => hpu.bodies _ (List.mem_map_of_mem hx))
  obtain ⟨pa, pc, rfl, _, _⟩ := hP.row.form
  have hqs : Sl NoB w1 2 encP vl q := hO.sl encP_ok.len (by omega)
  have m2 : Ext w1 (w1.alloc (.cells #[.slice pa xs.length pc, .int .i64 (r.2.1 : Int), .int .i64 (r.2.2 : Int)] 27)) := (Mods.refl _ w1).alloc _
  have HPC := Lib.hid (pager12_any (HL.out.mods ((HM1.out.trans m2).ext)) xs (.slice pa xs.length pc) (hsl.ext m2) (fun x hx => (hbs x hx).ext m2) hpu hln)
  have HTB := Lib.hid (Blk.new w1 #[.slice pa xs.length pc, .int .i64 (r.2.1 : Int), .int .i64 (r.2.2 : Int)] 27)
  have HM2 := Lib.hid (HM1.out.trans m2)
  have HQS := Lib.hid (hqs.ext m2)
  have HQL := Lib.hid hql
  obtain ⟨va, vc, rfl, v1, v2, v3, _⟩ := hqs
  unfold maxLen at v2
  rw [hxs] at HPC
  clear hP hxs hm1 hr hpu hln hsl hbs m2 hO hq
  go_wp2_with fail
  refine (HPC.out).mono ?_
  rintro e w2 ⟨c, s, P, F, rfl, hG, hN⟩
  have hS := LG.startZ (gen := 5) hG hN 5 rfl
  have t0 := hS.c0
  have t1 := hS.c1
  have t2 : _ = some (Value.int .u64 5) := hS.c2
  have hb := hS.old HTB.out
  have b1 := hb.cell (o := 1) (v := .int .i64 (r.2.1 : Int)) rfl
  have HS := Lib.hid hS
  have ha := HAB.out.ext (HM2.out.trans hS.ext0)
  have a0 := ha.cell (o := 0) (v := .string from_) rfl
  have a2 := ha.cell (o := 2) (v := .int .i64 most) rfl
  have HD : Hid (r.2.2 ≤ 16) := Lib.hid (by rcases HTE.out.1 with ⟨_, _, h⟩ | ⟨_, _, h, _⟩ <;> omega)
  have HTT : Hid (putsG (G0 200) r.1).total := Lib.hid (G0_puts_total 200 r.1)
  clear hG hN hb ha hql
  obtain ⟨q1, hq1⟩ : ∃ q, boundB from_ = q := ⟨_, rfl⟩
  obtain ⟨q3, hq3⟩ : ∃ q, decide (most < 0) = q := ⟨_, rfl⟩
  obtain ⟨q4, hq4⟩ : ∃ q, decide (most > 65535) = q := ⟨_, rfl⟩
  have hak := askB_one from_ most
  rw [hq1, hq3, hq4] at hak
  rw [hq1] at HBD
  cases hok : askB from_ ⟨#[]⟩ most with
  | false =>
    have HBB := Lib.hid (back_bad hS.env hS.sub hS.pg 5 (r.2.1 : Int) from_ most hok)
    rw [pgV5] at HBB ⊢
    rw [hok] at hak
    have HQ3 := Lib.hid hq3
    have HQ4 := Lib.hid hq4
    have HAK := Lib.hid hak
    clear hS hok hq1 hq3 hq4 hak
    go_wp2_with fail
    refine (HBB.out).mono ?_
    rintro e w3 hd
    have hq3 := HQ3.out
    have hq4 := HQ4.out
    have hak := HAK.out
    obtain ⟨P3, F3, hS3, b, rfl, hE3⟩ := HS.out.done hd
    have HS3 := Lib.hid hS3
    have HTL := Lib.hid (tells12T hS3.env HFU.out hE3 2 (by omega) rfl)
    have HX := Lib.hid (HM2.out.trans hS3.ext0)
    have HAW := Lib.hid (awake12_any (HL.out.mods HX.out.ext))
    have ha := HAB.out.ext HX.out
    have a0 := ha.cell (o := 0) (v := .string from_) rfl
    have a2 := ha.cell (o := 2) (v := .int .i64 most) rfl
    clear hd hS3 hE3 t0 t1 t2 b1 ha
    cases q1 with
    | false =>
      clear hak hq3 hq4
      go_wp2_with fail
      refine (HBD.out _).mono ?_
      rintro e w4 ⟨rfl, rfl⟩
      go_wp2_with fail
      refine (HTL.out).mono ?_
      rintro e w4 ⟨rfl, rfl⟩
      go_wp2_with fail
      refine (HAW.out).mono ?_
      rintro e w4 ⟨rfl, hm4⟩
      have HM4 := Lib.hid ((HM0.out.trans HX.out).trans hm4)
      clear hm4
      go_wp2_with fail
      go_ret
      exact ⟨rfl, HM4.out⟩
    | true =>
      cases q3 with
      | true =>
        have h3 := of_decide_eq_true hq3
        clear hak hq3 hq4
        go_wp2_with fail
        refine (HBD.out _).mono ?_
        rintro e w4 ⟨rfl, rfl⟩
        go_wp2_with fail
        refine (HTL.out).mono ?_
        rintro e w4 ⟨rfl, rfl⟩
        go_wp2_with fail
        refine (HAW.out).mono ?_
        rintro e w4 ⟨rfl, hm4⟩
        have HM4 := Lib.hid ((HM0.out.trans HX.out).trans hm4)
        clear hm4
        go_wp2_with fail
        go_ret
        exact ⟨rfl, HM4.out⟩
      | false =>
        have h3 := of_decide_eq_false hq3
        cases q4 with
        | false => cases hak
        | true =>
          have h4 := of_decide_eq_true hq4
          clear hak hq3 hq4
          go_wp2_with fail
          refine (HBD.out _).mono ?_
          rintro e w4 ⟨rfl, rfl⟩
          go_wp2_with fail
          refine (HTL.out).mono ?_
          rintro e w4 ⟨rfl, rfl⟩
          go_wp2_with fail
          refine (HAW.out).mono ?_
          rintro e w4 ⟨rfl, hm4⟩
          have HM4 := Lib.hid ((HM0.out.trans HX.out).trans hm4)
          clear hm4
          go_wp2_with fail
          go_ret
          exact ⟨rfl, HM4.out⟩
  | true =>
    rw [hok] at hak
    have hq1t : q1 = true := by cases q1; cases hak; rfl
    subst hq1t
    have h3 : ¬ most < 0 := by cases q3; exact of_decide_eq_false hq3; cases q4 <;> cases hak
    have h4 : ¬ most > 65535 := by cases q4; exact of_decide_eq_false hq4; cases q3 <;> cases hak
    have HBB := Lib.hid (back_any hS.env hS.sub hS.pg HQL.out HTT.out HD.out HTE.out 5 from_ most hok)
    obtain ⟨N, rfl⟩ : ∃ N : Nat, most = (N : Int) := ⟨most.toNat, by omega⟩
    have hN : N ≤ 65535 := by omega
    have HNN := Lib.hid hN
    rw [Int.toNat_natCast, ← backK_from HT.out.tame.sorted] at HBB
    obtain ⟨o, ho⟩ : ∃ o, o = backK q from_ q.length N := ⟨_, rfl⟩
    have HOO := Lib.hid ho
    rw [← ho] at HBB
    rw [pgV5] at HBB ⊢
    clear hS hok hq1 hq3 hq4 hak ho
    go_wp2_with fail
    refine (HBB.out).mono ?_
    rintro e w3 hd
    obtain ⟨P3, F3, hS3, v, rfl, hv⟩ := HS.out.done hd
    have HS3 := Lib.hid hS3
    have HV := Lib.hid hv
    have HX := Lib.hid (HM2.out.trans hS3.ext0)
    have HB12 := Lib.hid (back12_any q (.slice va q.length vc) (hS3.sl HQS.out) HQL.out from_ N HNN.out)
    have ha := HAB.out.ext HX.out
    have a0 := ha.cell (o := 0) (v := .string from_) rfl
    have a2 := ha.cell (o := 2) (v := .int .i64 (N : Int)) rfl
    obtain ⟨ga, gc, rfl, _, _, _, _⟩ := hv
    clear hd hS3 t0 t1 t2 b1 ha
    go_wp2_with fail
    refine (HBD.out _).mono ?_
    rintro e w4 ⟨rfl, rfl⟩
    go_wp2_with fail
    refine (HB12.out).mono ?_
    rintro e w4 ⟨kv, rfl, hO4, hm4⟩
    rw [← HOO.out] at hO4
    have hst := (SameTexts_any (.slice ga o.length gc) kv o o (HV.out.ext hm4) (hO4.sl encS_ok.len (by
      have h5 := (HV.out)
      obtain ⟨_, _, _, _, _, h6, _⟩ := h5
      omega)))
    rw [decide_eq_true rfl] at hst
    have HST := Lib.hid hst
    clear hst
    have HX4 := Lib.hid (HX.out.trans hm4)
    clear hO4 hm4
    go_wp2_with fail
    refine (HST.out).mono ?_
    rintro e w5 ⟨rfl, hm5⟩
    have HX5 := Lib.hid (HX4.out.trans hm5)
    have HAW := Lib.hid (awake12_any (HL.out.mods HX5.out.ext))
    clear hm5
    go_wp2_with fail
    refine (HAW.out).mono ?_
    rintro e w6 ⟨rfl, hm6⟩
    have HM6 := Lib.hid ((HM0.out.trans HX5.out).trans hm6)
    clear hm6
    go_wp2_with fail
    go_ret
    exact ⟨rfl, HM6.out⟩
end Go.Proofs.YtepafbokbfcbgaaGreatDoor
