/- cursor.open. | CursorRefuses, walked. -/
import Derived.Test.YtepafbokbfcbgaaGreatDoorK51
namespace Go.Proofs.YtepafbokbfcbgaaGreatDoor
open Go.RowKit
attribute [local go_sem ↓] Go.wp_at_zero Go.wp_at_succ
section
variable {F P P' F' P1 F1 : Nat → Prop} {ad : Nat → Addr} {w w' w0 w1 : World} {base c s gen kb : Nat} {root : Int} {G G' : GA} {l l' : List Nat} {sv sv' : Value} {st st' : List FrE} {x : FrE}
/-- may a range be asked for? -/
def askB (a b : ByteArray) (most : Int) : Bool := boundB a && boundB b && decide (0 ≤ most) && decide (most ≤ 65535)
def OpenD (F P : Nat → Prop) (ad : Nat → Addr) (w : World) (c s gen : Nat) (root : Int) (G : GA) (l : List Nat) (ok : Bool) (e : Ending) (w' : World) : Prop :=
  (ok = true ∧ NewD F P ad w c s gen root G l e w') ∨ (ok = false ∧ ∃ b F', e = .returned (.tuple #[.pointer none, faultV b]) ∧ PgR F' w' P c s G l ∧ Nxt P P F F' ad w w' ∧ ErrC F' ad w' (faultV b) [-1] 2)
set_option maxRecDepth 100000 in
set_option maxHeartbeats 1000000 in
theorem open_cur (hL : Env F ad w) (hP : ∀ k, P k → F k) (h : PgR F w P c s G l) (gen : Nat) (root : Int) (op from_ to_ : ByteArray) (most : Int) :
    Calls Tryz.prog 58 #[.string op, pgV c s gen, .int .i64 root, .string from_, .string to_, .int .i64 most] w (OpenD F P ad w c s gen root G l (askB from_ to_ most)) := by
  have m0 : Ext w (w.alloc (.cells #[.pointer (some ⟨c, 0, none⟩), .pointer (some ⟨s, 0, none⟩), .int .u64 (gen : Int)] 34)) := (Mods.refl _ w).alloc _
  have HN0 := Lib.hid (Nxt.ext hL hP m0)
  have HNW := Lib.hid (new_cur HN0.out.env hP (h.at m0) gen root)
  have HB1 := Lib.hid (bound_any from_)
  have HB2 := Lib.hid (bound_any to_)
  clear hL hP h m0
  unfold pgV at HNW ⊢
  go_enter Tryz.func58, Tryz.ntmps58
  go_wp2_with fail
  refine (HNW.out).mono ?_
  rintro e w1 ⟨kb, base, F1, rfl, h1, n1⟩
  have H1 := Lib.hid h1
  have N1 := Lib.hid (HN0.out.trans n1)
  have c2 := h1.env.c2
  clear h1 n1
  obtain ⟨q1, hq1⟩ : ∃ q, boundB from_ = q := ⟨_, rfl⟩
  obtain ⟨q2, hq2⟩ : ∃ q, boundB to_ = q := ⟨_, rfl⟩
  obtain ⟨q3, hq3⟩ : ∃ q, decide (most < 0) = q := ⟨_, rfl⟩
  obtain ⟨q4, hq4⟩ : ∃ q, decide (most > 65535) = q := ⟨_, rfl⟩
  rw [hq1] at HB1
  rw [hq2] at HB2
  have HA : Hid (askB from_ to_ most = (q1 && q2 && !q3 && !q4)) := Lib.hid (by
    unfold askB
    rw [hq1, hq2, ← hq3, ← hq4]
    congr 1
    · congr 1
      by_cases h : most < 0
      · rw [decide_eq_true h, decide_eq_false (by omega)]; rfl
      · rw [decide_eq_false h, decide_eq_true (by omega)]; rfl
    · by_cases h : most > 65535
      · rw [decide_eq_true h, decide_eq_false (by omega)]; rfl
      · rw [decide_eq_false h, decide_eq_true (by omega)]; rfl)
  clear hq1 hq2
  cases q1 with
  | false =>
    have HV : Hid (askB from_ to_ most = false) := Lib.hid (by rw [HA.out]; rfl)
    go_wp2_with fail
    refine (HB1.out _).mono ?_
    rintro e w2 ⟨rfl, rfl⟩
    go_wp2_with fail
    refine (new_any H1.out.env _ _ [] 2 (.sent 2 (by decide) (by decide))).mono ?_
    rintro e w2 ⟨b, rfl, hE, hm⟩
    have HE := Lib.hid hE
    have H2 := Lib.hid (H1.out.ext hm)
    clear hE hm
    go_wp2_with fail
    refine bodyPost_ret (v := .tuple #[.pointer none, faultV b]) (by simp [results, Tryz.results58, go_sem]) rfl ?_
    rw [HV.out]
    exact .inr ⟨rfl, b, F1, rfl, H2.out.1.pg, (N1.out.trans H2.out.2).shrink (fun k hk => .inl hk), HE.out⟩
  | true =>
    cases q2 with
    | false =>
      have HV : Hid (askB from_ to_ most = false) := Lib.hid (by rw [HA.out]; rfl)
      go_wp2_with fail
      refine (HB1.out _).mono ?_
      rintro e w2 ⟨rfl, rfl⟩
      go_wp2_with fail
      refine (HB2.out _).mono ?_
      rintro e w2 ⟨rfl, rfl⟩
      go_wp2_with fail
      refine (new_any H1.out.env _ _ [] 2 (.sent 2 (by decide) (by decide))).mono ?_
      rintro e w2 ⟨b, rfl, hE, hm⟩
      have HE := Lib.hid hE
      have H2 := Lib.hid (H1.out.ext hm)
      clear hE hm
      go_wp2_with fail
      refine bodyPost_ret (v := .tuple #[.pointer none, faultV b]) (by simp [results, Tryz.results58, go_sem]) rfl ?_
      rw [HV.out]
      exact .inr ⟨rfl, b, F1, rfl, H2.out.1.pg, (N1.out.trans H2.out.2).shrink (fun k hk => .inl hk), HE.out⟩
    | true =>
      cases q3 with
      | true =>
        have HV : Hid (askB from_ to_ most = false) := Lib.hid (by rw [HA.out]; rfl)
        have h3 := of_decide_eq_true hq3
        clear hq3 hq4
        go_wp2_with fail
        refine (HB1.out _).mono ?_
        rintro e w2 ⟨rfl, rfl⟩
        go_wp2_with fail
        refine (HB2.out _).mono ?_
        rintro e w2 ⟨rfl, rfl⟩
        go_wp2_with fail
        refine (new_any H1.out.env _ _ [] 2 (.sent 2 (by decide) (by decide))).mono ?_
        rintro e w2 ⟨b, rfl, hE, hm⟩
        have HE := Lib.hid hE
        have H2 := Lib.hid (H1.out.ext hm)
        clear hE hm
        go_wp2_with fail
        refine bodyPost_ret (v := .tuple #[.pointer none, faultV b]) (by simp [results, Tryz.results58, go_sem]) rfl ?_
        rw [HV.out]
        exact .inr ⟨rfl, b, F1, rfl, H2.out.1.pg, (N1.out.trans H2.out.2).shrink (fun k hk => .inl hk), HE.out⟩
      | false =>
        have h3 := of_decide_eq_false hq3
        cases q4 with
        | true =>
          have HV : Hid (askB from_ to_ most = false) := Lib.hid (by rw [HA.out]; rfl)
          have h4 := of_decide_eq_true hq4
          clear hq3 hq4
          go_wp2_with fail
          refine (HB1.out _).mono ?_
          rintro e w2 ⟨rfl, rfl⟩
          go_wp2_with fail
          refine (HB2.out _).mono ?_
          rintro e w2 ⟨rfl, rfl⟩
          go_wp2_with fail
          refine (new_any H1.out.env _ _ [] 2 (.sent 2 (by decide) (by decide))).mono ?_
          rintro e w2 ⟨b, rfl, hE, hm⟩
          have HE := Lib.hid hE
          have H2 := Lib.hid (H1.out.ext hm)
          clear hE hm
          go_wp2_with fail
          refine bodyPost_ret (v := .tuple #[.pointer none, faultV b]) (by simp [results, Tryz.results58, go_sem]) rfl ?_
          rw [HV.out]
          exact .inr ⟨rfl, b, F1, rfl, H2.out.1.pg, (N1.out.trans H2.out.2).shrink (fun k hk => .inl hk), HE.out⟩
        | false =>
          have HV : Hid (askB from_ to_ most = true) := Lib.hid (by rw [HA.out]; rfl)
          have h4 := of_decide_eq_false hq4
          clear hq3 hq4
          go_wp2_with fail
          refine (HB1.out _).mono ?_
          rintro e w2 ⟨rfl, rfl⟩
          go_wp2_with fail
          refine (HB2.out _).mono ?_
          rintro e w2 ⟨rfl, rfl⟩
          go_wp2_with fail
          refine bodyPost_ret (v := .tuple #[.pointer (some ⟨kb, 0, none⟩), .nilIface]) (by simp [results, Tryz.results58, go_sem]) rfl ?_
          rw [HV.out]
          exact .inl ⟨rfl, kb, base, F1, rfl, H1.out, N1.out⟩
end
end Go.Proofs.YtepafbokbfcbgaaGreatDoor
namespace Go.Proofs.YtepafbokbfcbgaaGreatDoor
open Go.RowKit
attribute [local go_sem ↓] Go.wp_at_zero Go.wp_at_succ
end Go.Proofs.YtepafbokbfcbgaaGreatDoor
