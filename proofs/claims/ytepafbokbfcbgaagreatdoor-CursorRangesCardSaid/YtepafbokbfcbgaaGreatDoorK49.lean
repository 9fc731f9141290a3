/- cursor: down. | cursor: edge. | cursor: move. | cursor: seek. -/
import Derived.Test.YtepafbokbfcbgaaGreatDoorK48
import Derived.StillTailTactics
import Derived.Deep.RegionHeld3
namespace Go.Proofs.YtepafbokbfcbgaaGreatDoor
open Go.RowKit
attribute [local go_sem ↓] Go.wp_at_zero Go.wp_at_succ
section
variable {F P P' F' P1 F1 : Nat → Prop} {ad : Nat → Addr} {w w' w0 w1 : World} {base c s gen kb : Nat} {root : Int} {G G' : GA} {l l' : List Nat} {sv sv' : Value} {st st' : List FrE} {x : FrE}
set_option maxRecDepth 100000 in
set_option maxHeartbeats 1000000 in
theorem down_any (last : Bool) {r : List FrE} (h : CuI F P ad w base c s gen kb root G l sv (x :: r)) (hx : TopOk x.pl) (ht : G.total) :
    Calls Tryz.prog 99 #[.pointer (some ⟨kb, 0, none⟩), .bool last] w (CuD F P ad w base c s gen kb root G l sv (downF G last ((x :: r).map FrE.pl))) := by
  have H := Lib.hid h
  have HT := Lib.hid ht
  have HXT := Lib.hid hx
  have hfew := h.cu.few
  have hfr : r.length ≤ 15 := by simp at hfew; omega
  obtain ⟨N, hN⟩ : ∃ N, N = 16 - r.length := ⟨_, rfl⟩
  have HN := Lib.hid hN
  clear h hx ht hfew hN
  go_enter Tryz.func99, Tryz.ntmps99
  go_wp2_with fail
  go_loopg [] N (fun m wr => ∃ (x1 : FrE) (r1 : List FrE), m + r1.length = 16 ∧ r1.length ≤ 15 ∧ TopOk x1.pl ∧ Hid (∃ (F1 P1 : Nat → Prop) (sv1 : Value), CuI F1 P1 ad wr base c s gen kb root G l sv1 (x1 :: r1) ∧ Nxt (cuQ P kb sv) (cuQ P1 kb sv1) F F1 ad w wr ∧ downF G last ((x1 :: r1).map FrE.pl) = downF G last ((x :: r).map FrE.pl)))
  case atStart => exact ⟨x, r, by have := HN.out; omega, hfr, HXT.out, Lib.hid ⟨F, P, sv, H.out, Nxt.refl H.out.env H.out.subQ, rfl⟩⟩
  case round =>
    obtain ⟨x1, r1, hk, hr1, hx1, HR⟩ := hrel
    have HX1 := Lib.hid hx1
    obtain ⟨F1, P1, sv1, h1, n1, e1⟩ := HR.out
    obtain ⟨g, cp, rfl, b1, b2, b3, c0, c1, c2, c3, c4⟩ := h1.form
    have H1 := Lib.hid h1
    have N1 := Lib.hid n1
    have E1 := Lib.hid e1
    have HTP := Lib.hid (top_any h1.cu.blk rfl (by omega))
    have HC := Lib.hid (And.intro c0 (And.intro c3 c4))
    clear hx1 h1 n1 e1 b3 c0 c1 c2 c3 c4
    go_wp2_with fail
    refine (HTP.out).mono ?_
    rintro e w2 ⟨rfl, hm2⟩
    have H2 := Lib.hid (H1.out.ext hm2)
    have c0 := cellE hm2 HC.out.1
    have c3 := cellE hm2 HC.out.2.1
    have c4 := cellE hm2 HC.out.2.2
    clear hm2
    cases hl : x1.node.leaf with
    | true =>
      rw [hl] at c0
      have HZ : Hid (downF G last ((x :: r).map FrE.pl) = .inl ((x1 :: r1).map FrE.pl)) := Lib.hid (by
        rw [← E1.out]
        exact downF_leaf (by exact hl) (by simp; omega))
      clear hl
      go_wp2_with fail
      go_ret
      exact CuD.good H2.out.1 (N1.out.trans H2.out.2) HZ.out
    | false =>
      rw [hl] at c0
      have hok := HX1.out hl
      obtain ⟨a, ha⟩ : ∃ a : Nat, x1.at_ = (a : Int) := ⟨x1.at_.toNat, by have := hok.1; simp only [FrE.pl] at this; omega⟩
      have hak : a < x1.node.kids.length := by have := hok.2; simp only [FrE.pl] at this; omega
      obtain ⟨ib, ioff, hia, hic⟩ := (H2.out.1.cu.fr x1 List.mem_cons_self).is.elem hak (Mods.refl _ _)
      obtain ⟨kid, hkid⟩ : ∃ kid, kid = x1.node.kids[a] := ⟨_, rfl⟩
      have d0 := hic 0 (.int .i64 kid) (by rw [hkid]; rfl)
      simp only [Nat.mul_one, Nat.add_zero] at d0
      have HZ : Hid (downF G last ((x :: r).map FrE.pl) = match pushA G ((x1 :: r1).map FrE.pl) kid with | .inr e => .inr e | .inl st => downF G last (edgeTop last st)) := Lib.hid (by
        rw [← E1.out]
        have := downF_step (G := G) (last := last) (n := x1.node) (a := x1.at_) (r := r1.map FrE.pl) hl (by simp; omega)
        have e : x1.node.kids.getD x1.at_.toNat 0 = kid := by rw [ha, hkid]; simp [List.getD, hak]
        rw [e] at this
        exact this)
      have HPU := Lib.hid (push_any (H2.out.1.ext (Mods.refl _ _).drew).1 HT.out kid)
      have i1 : (0 : Int) ≤ (a : Int) := by omega
      have i2 : (a : Int) < (x1.node.kids.length : Int) := by omega
      rw [ha] at c4
      rw [hia] at c3
      clear hl hok hic hkid hak ha
      go_wp2_with fail
      go_still_tail 12, (by kernel_rfl)
      change wpList _ _ _ _ _ w2.drew
      have HD2 := Lib.hid (H2.out.1.ext (Mods.refl _ _).drew)
      clear c0 c3 c4 d0
      go_wp2_with fail
      refine (HPU.out).mono ?_
      rintro e w4 hd
      cases hp : pushA G ((x1 :: r1).map FrE.pl) kid with
      | inr er =>
        obtain ⟨el, ek⟩ := er
        rw [hp] at hd HZ
        obtain ⟨P4, F4, sv4, st4, h4, n4, f, rfl, hE⟩ := hd
        have H4 := Lib.hid h4
        have N4 := Lib.hid n4
        have HE := Lib.hid hE
        clear h4 n4 hE hp
        go_wp2_with fail
        go_ret
        exact CuD.bad H4.out (((N1.out.trans H2.out.2).trans HD2.out.2).trans N4.out) HE.out HZ.out
      | inl sa =>
        rw [hp] at hd HZ
        obtain ⟨P4, F4, sv4, st4, h4, n4, rfl, hsa⟩ := hd
        obtain ⟨_, n, hsn, _⟩ := pushA_ok HD2.out.1.cu.ok hp
        rw [hsn] at hsa
        obtain ⟨y, r2, rfl⟩ : ∃ y r2, st4 = y :: r2 := by
          cases st4 with
          | nil => simp at hsa
          | cons y r2 => exact ⟨y, r2, rfl⟩
        have HSA : Hid (sa = (y :: r2).map FrE.pl) := Lib.hid (by rw [hsn]; exact hsa.symm)
        rw [List.map_cons] at hsa
        injection hsa with hs1 hs2
        have hrl : r2.length = r1.length + 1 := by have := congrArg List.length hs2; simpa using this
        have hr2 : r2.length ≤ 15 := by have := h4.cu.few; simp at this; omega
        have hrl1 : r1.length + 1 ≤ r2.length := by omega
        have hrl2 : r2.length ≤ r1.length + 1 := by omega
        have H4 := Lib.hid h4
        have N4 := Lib.hid (((N1.out.trans H2.out.2).trans HD2.out.2).trans n4)
        have HYT : Hid (TopOk y.pl) := Lib.hid (by rw [hs1]; exact (zero_ok (by have := h4.cu.ok.1 y.pl (by simp); rw [hs1] at this; exact this.1)).2)
        clear h4 n4 hs1 hs2 hsn hp hrl
        cases last with
        | false =>
          have HZ2 : Hid (downF G false ((y :: r2).map FrE.pl) = downF G false ((x :: r).map FrE.pl)) := Lib.hid (by rw [HZ.out, HSA.out]; rfl)
          go_wp2_with fail
          go_roundg (gk - 1)
          case measure => omega
          case rel => exact ⟨y, r2, by omega, hr2, HYT.out, Lib.hid ⟨F4, P4, _, H4.out, N4.out, HZ2.out⟩⟩
        | true =>
          have HZ2 : Hid (downF G true (({ y with at_ := lastI y.node } :: r2 : List FrE).map FrE.pl) = downF G true ((x :: r).map FrE.pl)) := Lib.hid (by rw [HZ.out, HSA.out]; rfl)
          obtain ⟨g2, cp2, rfl, b4, b5, -, -⟩ := _root_.id H4.out.form
          have HT4 := Lib.hid (top_any H4.out.cu.blk rfl (by omega))
          go_wp2_with fail
          refine (HT4.out).mono ?_
          rintro e w5 ⟨rfl, hm5⟩
          have H5 := Lib.hid (H4.out.ext hm5)
          have HT5 := Lib.hid (top_any H5.out.1.cu.blk rfl (by omega))
          clear hm5
          go_wp2_with fail
          refine (HT5.out).mono ?_
          rintro e w6 ⟨rfl, hm6⟩
          have H6 := Lib.hid (H5.out.1.ext hm6)
          obtain ⟨f6, e0, e1', e2, e3, e4⟩ := H6.out.1.cells
          have HEN := Lib.hid (ends_any y.node e0 e1' e3)
          clear hm6 e0 e1' e2 e3
          go_wp2_with fail
          refine (HEN.out).mono ?_
          rintro e w7 ⟨rfl, rfl⟩
          have HRN : Hid (rightN y.node = true) := Lib.hid (H6.out.1.cu.ok.1 y.pl (by simp)).1
          have he7 : (endsA y.node : Int) ≤ 65536 := by
            have hf := rightN_few HRN.out
            unfold endsA
            split <;> omega
          have he8 : (0 : Int) ≤ (endsA y.node : Int) := by omega
          go_wp2_with fail
          have HPT := Lib.hid (H6.out.1.put (lastI y.node) (lastI_ok HRN.out).1)
          go_roundg (gk - 1)
          case measure => omega
          case rel => exact ⟨{ y with at_ := lastI y.node }, r2, by omega, hr2, (lastI_ok HRN.out).2, Lib.hid ⟨F4, P4, _, HPT.out.1, ((N4.out.trans H5.out.2).trans H6.out.2).trans HPT.out.2, HZ2.out⟩⟩
end
end Go.Proofs.YtepafbokbfcbgaaGreatDoor
namespace Go.Proofs.YtepafbokbfcbgaaGreatDoor
open Go.RowKit
attribute [local go_sem ↓] Go.wp_at_zero Go.wp_at_succ
section
variable {F P P' F' P1 F1 : Nat → Prop} {ad : Nat → Addr} {w w' w0 w1 : World} {base c s gen kb : Nat} {root : Int} {G G' : GA} {l l' : List Nat} {sv sv' : Value} {st st' : List FrE} {x : FrE}
theorem downA_ne {G : GA} {last : Bool} : ∀ (f : Nat) (st sa : StA), st ≠ [] → downA G last f st = .inl sa → sa ≠ []
  | 0, st, sa, h, hd => by rw [downA] at hd; injection hd with hd; subst hd; exact h
  | f + 1, [], sa, h, hd => absurd rfl h
  | f + 1, (n, a) :: r, sa, h, hd => by
    rw [downA] at hd
    split at hd
    · injection hd with hd; subst hd; simp
    · split at hd
      · cases hd
      · rename_i st1 hp
        refine downA_ne f _ sa ?_ hd
        have : (edgeTop last st1).length ≠ 0 := by
          rw [edgeTop_len]
          unfold pushA at hp
          split at hp
          · cases hp
          · split at hp
            · cases hp
            · injection hp with hp; subst hp; simp
        intro e
        rw [e] at this
        exact this rfl
theorem downF_ne {G : GA} {last : Bool} {st sa : StA} (h : st ≠ []) (hd : downF G last st = .inl sa) : sa ≠ [] := downA_ne _ _ _ h hd
set_option maxRecDepth 100000 in
set_option maxHeartbeats 1000000 in
theorem edge_any (last : Bool) (h : CuI F P ad w base c s gen kb root G l sv st) (ht : G.total) :
    Calls Tryz.prog 68 #[.pointer (some ⟨kb, 0, none⟩), .bool last] w (CuD F P ad w base c s gen kb root G l sv (edgeA G root last)) := by
  have H := Lib.hid h
  have HT := Lib.hid ht
  obtain ⟨pa, pc, rfl, -, -⟩ := _root_.id h.cu.row.form
  have k4 := h.cu.blk.cell (o := 4) (v := .slice pa st.reverse.length pc) rfl
  have k3 := h.cu.blk.cell (o := 3) (v := .int .i64 root) rfl
  have kf := h.cu.blk.frozen
  have H1 := Lib.hid h.nul
  by_cases hr : root = 0
  · have hrb : (root == 0) = true := beq_iff_eq.2 hr
    have HV : Hid (edgeA G root last = .inl []) := Lib.hid (by unfold edgeA; rw [if_pos hr])
    clear h ht hr
    go_enter Tryz.func68, Tryz.ntmps68
    go_wp2_with fail
    go_ret
    exact CuD.good H1.out.1 H1.out.2 HV.out
  · have hrb : (root == 0) = false := beq_eq_false_iff_ne.2 hr
    have HV : Hid (edgeA G root last = match pushA G [] root with
      | .inr e => .inr e
      | .inl st => match downF G last (edgeTop last st) with
        | .inr e => .inr e
        | .inl st1 => if topNone st1 = true then .inl [] else .inl st1) := Lib.hid (by unfold edgeA; rw [if_neg hr]; rfl)
    have HPU := Lib.hid (push_any H1.out.1 HT.out root)
    clear h ht hr
    go_enter Tryz.func68, Tryz.ntmps68
    go_wp2_with fail
    refine (HPU.out).mono ?_
    rintro e w4 hd
    rw [List.map_nil] at hd
    cases hp : pushA G [] root with
    | inr er =>
      obtain ⟨el, ek⟩ := er
      rw [hp] at hd HV
      obtain ⟨P4, F4, sv4, st4, h4, n4, f, rfl, hE⟩ := hd
      have H4 := Lib.hid h4
      have N4 := Lib.hid n4
      have HE := Lib.hid hE
      clear h4 n4 hE hp k3 k4 kf
      go_wp2_with fail
      go_ret
      exact CuD.bad H4.out (H1.out.2.trans N4.out) HE.out HV.out
    | inl sa =>
      rw [hp] at hd HV
      obtain ⟨P4, F4, sv4, st4, h4, n4, rfl, hsa⟩ := hd
      obtain ⟨_, n, hsn, _⟩ := pushA_ok (st := []) ⟨fun x hx => by simp at hx, by simp⟩ hp
      rw [hsn] at hsa
      obtain ⟨y, rfl⟩ : ∃ y, st4 = [y] := List.length_eq_one_iff.1 (by have := congrArg List.length hsa; simpa using this)
      have hs1 : y.pl = (n, 0) := by simpa using hsa
      have HRN : Hid (rightN y.node = true) := Lib.hid (h4.cu.ok.1 y.pl (by simp)).1
      have HYT : Hid (TopOk y.pl) := Lib.hid (by rw [hs1]; exact (zero_ok (by have := h4.cu.ok.1 y.pl (by simp); rw [hs1] at this; exact this.1)).2)
      have HSA : Hid (sa = [y.pl]) := Lib.hid (by rw [hsn, hs1])
      have HAT : Hid (y.at_ = 0) := Lib.hid (by have := congrArg Prod.snd hs1; exact this)
      have H4 := Lib.hid h4
      have N4 := Lib.hid (H1.out.2.trans n4)
      clear h4 n4 hsa hs1 hsn hp k3 k4 kf
      cases last with
      | false =>
        have HZ : Hid (edgeA G root false = match downF G false [y.pl] with
          | .inr e => .inr e
          | .inl st1 => if topNone st1 = true then .inl [] else .inl st1) := Lib.hid (by rw [HV.out, HSA.out]; rfl)
        have HA := H4
        have NA := N4
        have HTA := HYT
        have HDN := Lib.hid (down_any false HA.out HTA.out HT.out)
        go_wp2_with fail
        refine (HDN.out).mono ?_
        rintro e w8 hd
        rw [List.map_cons, List.map_nil] at hd
        cases hq : downF G false [y.pl] with
        | inr er =>
          obtain ⟨el, ek⟩ := er
          rw [hq] at hd HZ
          obtain ⟨P8, F8, sv8, st8, h8, n8, f, rfl, hE⟩ := hd
          have H8 := Lib.hid h8
          have N8 := Lib.hid n8
          have HE := Lib.hid hE
          clear h8 n8 hE hq
          go_wp2_with fail
          go_ret
          exact CuD.bad H8.out (NA.out.trans N8.out) HE.out HZ.out
        | inl sa8 =>
          rw [hq] at hd HZ
          obtain ⟨P8, F8, sv8, st8, h8, n8, rfl, hsa⟩ := hd
          have hne := downF_ne (by simp) hq
          obtain ⟨z, r8, rfl⟩ : ∃ z r8, st8 = z :: r8 := by
            cases st8 with
            | nil => exact absurd hsa.symm hne
            | cons z r8 => exact ⟨z, r8, rfl⟩
          have HS8 := Lib.hid hsa
          obtain ⟨g8, cp8, rfl, -, -, -, -⟩ := _root_.id h8.form
          have hr8 : r8.length ≤ 15 := by have := h8.cu.few; simp at this; omega
          have HTP := Lib.hid (top_any h8.cu.blk rfl (by omega))
          have H8 := Lib.hid h8
          have N8 := Lib.hid (NA.out.trans n8)
          clear h8 n8 hsa hne hq
          go_wp2_with fail
          refine (HTP.out).mono ?_
          rintro e w9 ⟨rfl, hm9⟩
          have H9 := Lib.hid (H8.out.ext hm9)
          obtain ⟨f9, e0, e1', e2, e3, e4⟩ := H9.out.1.cells
          have k4 := H9.out.1.cu.blk.cell (o := 4) (v := .slice (some ⟨g8, 0, none⟩) (r8.length + 1) cp8) rfl
          have kf := H9.out.1.cu.blk.frozen
          have hel : z.node.entries.length ≤ 65535 := (rightN_few (H9.out.1.cu.ok.1 z.pl (by simp)).1).1
          by_cases h0 : z.node.entries.length = 0
          · have h0b : ((z.node.entries.length : Int) == 0) = true := by rw [h0]; rfl
            have HTN : Hid (topNone sa8 = true) := Lib.hid (by rw [← HS8.out]; show z.node.entries.isEmpty = true; rw [List.eq_nil_of_length_eq_zero h0]; rfl)
            have H10 := Lib.hid H9.out.1.nul
            clear h0 hm9 e0 e2 e3 e4 f9
            go_wp2_with fail
            go_ret
            exact CuD.good H10.out.1 ((N8.out.trans H9.out.2).trans H10.out.2) (by rw [HZ.out]; simp only [HTN.out, if_true]; rfl)
          · have h0b : ((z.node.entries.length : Int) == 0) = false := beq_eq_false_iff_ne.2 (by omega)
            have HTN : Hid (topNone sa8 = false) := Lib.hid (by
              rw [← HS8.out]
              show z.node.entries.isEmpty = false
              cases hze : z.node.entries with
              | nil => rw [hze] at h0; exact absurd rfl h0
              | cons _ _ => rfl)
            clear h0 hm9 e0 e2 e3 e4 f9
            go_wp2_with fail
            go_ret
            exact CuD.good H9.out.1 (N8.out.trans H9.out.2) (by rw [HZ.out]; simp only [HTN.out, Bool.false_eq_true, if_false]; rw [HS8.out])
      | true =>
        have HZ : Hid (edgeA G root true = match downF G true [({ y with at_ := lastI y.node } : FrE).pl] with
          | .inr e => .inr e
          | .inl st1 => if topNone st1 = true then .inl [] else .inl st1) := Lib.hid (by rw [HV.out, HSA.out]; rfl)
        obtain ⟨g2, cp2, rfl, b4, b5, -, -⟩ := _root_.id H4.out.form
        have HT4 := Lib.hid (top_any H4.out.cu.blk rfl (by simp))
        go_wp2_with fail
        refine (HT4.out).mono ?_
        rintro e w5 ⟨rfl, hm5⟩
        have H5 := Lib.hid (H4.out.ext hm5)
        have HT5 := Lib.hid (top_any H5.out.1.cu.blk rfl (by simp))
        clear hm5
        go_wp2_with fail
        refine (HT5.out).mono ?_
        rintro e w6 ⟨rfl, hm6⟩
        have H6 := Lib.hid (H5.out.1.ext hm6)
        obtain ⟨f6, e0, e1', e2, e3, e4⟩ := H6.out.1.cells
        simp only [List.length_nil, Nat.zero_mul, Nat.zero_add] at e0 e1' e2 e3 e4 ⊢
        have HEN := Lib.hid (ends_any y.node (o := 0) e0 e1' e3)
        clear hm6 e0 e1' e2 e3
        go_wp2_with fail
        refine (HEN.out).mono ?_
        rintro e w7 ⟨rfl, rfl⟩
        have he7 : (endsA y.node : Int) ≤ 65536 := by
          have hf := rightN_few HRN.out
          unfold endsA
          split <;> omega
        have he8 : (0 : Int) ≤ (endsA y.node : Int) := by omega
        have HPT := Lib.hid (H6.out.1.put (r := []) (lastI y.node) (lastI_ok HRN.out).1)
        have HA : Hid (CuI F4 P4 ad (w6.setCell ⟨g2, 4, none⟩ (.int .i64 (max 0 ((endsA y.node : Int) - 1)))) base c s gen kb root G l (.slice (some ⟨g2, 0, none⟩) 1 cp2) [{ y with at_ := lastI y.node }]) := Lib.hid HPT.out.1
        have NA := Lib.hid (((N4.out.trans H5.out.2).trans H6.out.2).trans HPT.out.2)
        have HTA : Hid (TopOk ({ y with at_ := lastI y.node } : FrE).pl) := Lib.hid (lastI_ok HRN.out).2
        have HDN := Lib.hid (down_any true HA.out HTA.out HT.out)
        go_wp2_with fail
        refine (HDN.out).mono ?_
        rintro e w8 hd
        rw [List.map_cons, List.map_nil] at hd
        cases hq : downF G true [({ y with at_ := lastI y.node } : FrE).pl] with
        | inr er =>
          obtain ⟨el, ek⟩ := er
          rw [hq] at hd HZ
          obtain ⟨P8, F8, sv8, st8, h8, n8, f, rfl, hE⟩ := hd
          have H8 := Lib.hid h8
          have N8 := Lib.hid n8
          have HE := Lib.hid hE
          clear h8 n8 hE hq
          go_wp2_with fail
          go_ret
          exact CuD.bad H8.out (NA.out.trans N8.out) HE.out HZ.out
        | inl sa8 =>
          rw [hq] at hd HZ
          obtain ⟨P8, F8, sv8, st8, h8, n8, rfl, hsa⟩ := hd
          have hne := downF_ne (by simp) hq
          obtain ⟨z, r8, rfl⟩ : ∃ z r8, st8 = z :: r8 := by
            cases st8 with
            | nil => exact absurd hsa.symm hne
            | cons z r8 => exact ⟨z, r8, rfl⟩
          have HS8 := Lib.hid hsa
          obtain ⟨g8, cp8, rfl, -, -, -, -⟩ := _root_.id h8.form
          have hr8 : r8.length ≤ 15 := by have := h8.cu.few; simp at this; omega
          have HTP := Lib.hid (top_any h8.cu.blk rfl (by omega))
          have H8 := Lib.hid h8
          have N8 := Lib.hid (NA.out.trans n8)
          clear h8 n8 hsa hne hq
          go_wp2_with fail
          refine (HTP.out).mono ?_
          rintro e w9 ⟨rfl, hm9⟩
          have H9 := Lib.hid (H8.out.ext hm9)
          obtain ⟨f9, e0, e1', e2, e3, e4⟩ := H9.out.1.cells
          have k4 := H9.out.1.cu.blk.cell (o := 4) (v := .slice (some ⟨g8, 0, none⟩) (r8.length + 1) cp8) rfl
          have kf := H9.out.1.cu.blk.frozen
          have hel : z.node.entries.length ≤ 65535 := (rightN_few (H9.out.1.cu.ok.1 z.pl (by simp)).1).1
          by_cases h0 : z.node.entries.length = 0
          · have h0b : ((z.node.entries.length : Int) == 0) = true := by rw [h0]; rfl
            have HTN : Hid (topNone sa8 = true) := Lib.hid (by rw [← HS8.out]; show z.node.entries.isEmpty = true; rw [List.eq_nil_of_length_eq_zero h0]; rfl)
            have H10 := Lib.hid H9.out.1.nul
            clear h0 hm9 e0 e2 e3 e4 f9
            go_wp2_with fail
            go_ret
            exact CuD.good H10.out.1 ((N8.out.trans H9.out.2).trans H10.out.2) (by rw [HZ.out]; simp only [HTN.out, if_true]; rfl)
          · have h0b : ((z.node.entries.length : Int) == 0) = false := beq_eq_false_iff_ne.2 (by omega)
            have HTN : Hid (topNone sa8 = false) := Lib.hid (by
              rw [← HS8.out]
              show z.node.entries.isEmpty = false
              cases hze : z.node.entries with
              | nil => rw [hze] at h0; exact absurd rfl h0
              | cons _ _ => rfl)
            clear h0 hm9 e0 e2 e3 e4 f9
            go_wp2_with fail
            go_ret
            exact CuD.good H9.out.1 (N8.out.trans H9.out.2) (by rw [HZ.out]; simp only [HTN.out, Bool.false_eq_true, if_false]; rw [HS8.out])
end
end Go.Proofs.YtepafbokbfcbgaaGreatDoor
namespace Go.Proofs.YtepafbokbfcbgaaGreatDoor
open Go.RowKit
attribute [local go_sem ↓] Go.wp_at_zero Go.wp_at_succ
section
variable {F P P' F' P1 F1 : Nat → Prop} {ad : Nat → Addr} {w w' w0 w1 : World} {base c s gen kb : Nat} {root : Int} {G G' : GA} {l l' : List Nat} {sv sv' : Value} {st st' : List FrE} {x : FrE}
def TightF (st : List FrE) : Prop := ∀ x ∈ st, -1 ≤ x.at_ ∧ x.at_ ≤ 65536
set_option maxRecDepth 100000 in
set_option maxHeartbeats 2000000 in
theorem move_any (by_ : Int) (hb1 : -1 ≤ by_) (hb2 : by_ ≤ 1) (h : CuI F P ad w base c s gen kb root G l sv st) (hti : TightF st) (ht : G.total) :
    Calls Tryz.prog 65 #[.pointer (some ⟨kb, 0, none⟩), .int .i64 by_] w (CuD F P ad w base c s gen kb root G l sv (moveA G by_ (st.map FrE.pl))) := by
  have H := Lib.hid h
  have HT := Lib.hid ht
  have HTI := Lib.hid hti
  clear h ht hti
  go_enter Tryz.func65, Tryz.ntmps65
  go_wp2_with fail
  go_loopg [] st.length (fun m wr => ∃ (st1 : List FrE), st1.length ≤ m ∧ m ≤ st1.length ∧ Hid (TightF st1 ∧ ∃ (F1 P1 : Nat → Prop) (sv1 : Value), CuI F1 P1 ad wr base c s gen kb root G l sv1 st1 ∧ Nxt (cuQ P kb sv) (cuQ P1 kb sv1) F F1 ad w wr ∧ moveA G by_ (st1.map FrE.pl) = moveA G by_ (st.map FrE.pl)))
  case atStart => exact ⟨st, Nat.le_refl _, Nat.le_refl _, Lib.hid ⟨HTI.out, F, P, sv, H.out, Nxt.refl H.out.env H.out.subQ, rfl⟩⟩
  case round =>
    obtain ⟨st1, hk1, hk2, HR⟩ := hrel
    cases st1 with
    | nil =>
      obtain ⟨-, F1, P1, sv1, h1, n1, e1⟩ := HR.out
      obtain ⟨a, cp, rfl, -, -⟩ := _root_.id h1.cu.row.form
      have k4 := h1.cu.blk.cell (o := 4) (v := .slice a 0 cp) rfl
      have H1 := Lib.hid h1
      have N1 := Lib.hid n1
      have E1 := Lib.hid e1
      clear h1 n1 e1
      go_wp2_with fail
      go_ret
      exact CuD.good H1.out N1.out (by rw [← E1.out]; rfl)
    | cons x1 r1 =>
      obtain ⟨hti1, F1, P1, sv1, h1, n1, e1⟩ := HR.out
      obtain ⟨g, cp, rfl, b1, b2, -, -⟩ := h1.form
      have hr1 : r1.length ≤ 15 := by have := h1.cu.few; simp at this; omega
      have k4 := h1.cu.blk.cell (o := 4) (v := .slice (some ⟨g, 0, none⟩) (r1.length + 1) cp) rfl
      have H1 := Lib.hid h1
      have N1 := Lib.hid n1
      have E1 := Lib.hid e1
      have HTP := Lib.hid (top_any h1.cu.blk rfl (by omega))
      have a1 := (hti1 x1 List.mem_cons_self).1
      have a2 := (hti1 x1 List.mem_cons_self).2
      have HTI1 : Hid (TightF r1) := Lib.hid (fun y hy => hti1 y (List.mem_cons_of_mem _ hy))
      simp only [List.length_cons] at hk1 hk2
      clear hti1 h1 n1 e1
      go_wp2_with fail
      refine (HTP.out).mono ?_
      rintro e w2 ⟨rfl, hm2⟩
      have H2 := Lib.hid (H1.out.ext hm2)
      obtain ⟨f2, c0, c1, c2, c3, c4⟩ := H2.out.1.cells
      have hro := (H2.out.1.cu.ok.1 x1.pl (by simp)).1
      have HRN : Hid (rightN x1.node = true) := Lib.hid hro
      have H3 := Lib.hid (H2.out.1.put (x1.at_ + by_) ⟨hro, by show -2 ≤ x1.at_ + by_; omega, by show x1.at_ + by_ ≤ 65537; omega⟩)
      obtain ⟨W3, hW3⟩ : ∃ W3, w2.setCell ⟨g, r1.length * 5 + 4, none⟩ (.int .i64 (x1.at_ + by_)) = W3 := ⟨_, rfl⟩
      have HW3 := Lib.hid hW3
      clear hm2 hro c1 c2 hW3 k4
      go_wp2_with fail
      rw [HW3.out] at H3 ⊢
      obtain ⟨f3, d0, d1, d2, d3, d4⟩ := H3.out.1.cells
      have HEN : Hid (∀ q, Calls Tryz.prog 98 #[.pointer (some ⟨g, r1.length * 5, none⟩)] (W3.drewN q) fun e w' => e = .returned (.int .i64 (endsA x1.node : Int)) ∧ w' = W3.drewN q) := Lib.hid (fun q => (ends_any x1.node (w := W3.drewN q) d0 d1 d3).mono (fun e w' h => ⟨h.1, h.2.symm⟩))
      have he7 : (endsA x1.node : Int) ≤ 65536 := by
        have hf := rightN_few HRN.out
        unfold endsA
        split <;> omega
      have he8 : (0 : Int) ≤ (endsA x1.node : Int) := by omega
      clear f2 c0 c3 c4 f3 d0 d1 d2 d3
      by_cases hge : 0 ≤ x1.at_ + by_
      · have hgd : decide (0 ≤ x1.at_ + by_) = true := decide_eq_true hge
        by_cases hlt : x1.at_ + by_ < (endsA x1.node : Int)
        · have HZ : Hid (moveA G by_ (st.map FrE.pl) = downF G (decide (by_ < 0)) (({ x1 with at_ := x1.at_ + by_ } :: r1 : List FrE).map FrE.pl)) := Lib.hid (by
            rw [← E1.out]
            show moveA G by_ ((x1.node, x1.at_) :: r1.map FrE.pl) = _
            rw [moveA, if_pos ⟨hge, hlt⟩]
            rfl)
          have HTO : Hid (TopOk ({ x1 with at_ := x1.at_ + by_ } : FrE).pl) := Lib.hid (fun hl => by
            have hl' : x1.node.leaf = false := hl
            have h2 := hlt
            unfold endsA at h2
            rw [if_neg (by rw [hl']; simp)] at h2
            exact ⟨hge, h2⟩)
          have HDN := Lib.hid (fun q => down_any (decide (by_ < 0)) (H3.out.1.ext ((Mods.refl _ W3).drewN q)).1 HTO.out HT.out)
          go_wp2_with fail
          go_quiet ((go_at_call 98; exact Calls.quiet_of_same (HEN.out _)))
          clear d4
          go_wp2_with fail
          refine (HDN.out _).mono ?_
          rintro e w5 hd
          obtain ⟨v, rfl⟩ := hd.form
          have HD5 := Lib.hid hd
          clear hd
          go_wp2_with fail
          go_ret
          rw [HZ.out]
          exact HD5.out.pre (((N1.out.trans H2.out.2).trans H3.out.2).trans (H3.out.1.ext ((Mods.refl _ W3).drewN _)).2)
        · have hlf : decide (x1.at_ + by_ < (endsA x1.node : Int)) = false := decide_eq_false hlt
          have HZ : Hid (moveA G by_ (r1.map FrE.pl) = moveA G by_ (st.map FrE.pl)) := Lib.hid (by
            rw [← E1.out]
            show _ = moveA G by_ ((x1.node, x1.at_) :: r1.map FrE.pl)
            rw [moveA, if_neg (by omega)])
          go_wp2_with fail
          go_quiet ((go_at_call 98; exact Calls.quiet_of_same (HEN.out _)))
          clear d4
          have H4 := Lib.hid (H3.out.1.ext ((Mods.refl _ W3).drewN nq))
          go_wp2_with fail
          obtain ⟨W5, hW5⟩ : ∃ W5, W3.drewN nq = W5 := ⟨_, rfl⟩
          rw [hW5] at H4 ⊢
          have k4 := H4.out.1.cu.blk.cell (o := 4) (v := .slice (some ⟨g, 0, none⟩) (r1.length + 1) cp) rfl
          have kf := H4.out.1.cu.blk.frozen
          clear hW5
          have u1 : IntKind.i64.wrap (r1.length : Int) = (r1.length : Int) := IntWalk.i64_in _ (by omega)
          have u2 : (0 : Int) ≤ (r1.length : Int) := by omega
          have u3 : (r1.length : Int) ≤ (cp : Int) := by omega
          have u4 : r1.length ≤ cp := by omega
          go_still_tail 14, (by kernel_rfl)
          change wpList _ _ _ _ _ W5.drew
          have HD5 := Lib.hid (H4.out.1.ext (Mods.refl _ W5).drew)
          clear k4 kf
          have k4 := HD5.out.1.cu.blk.cell (o := 4) (v := .slice (some ⟨g, 0, none⟩) (r1.length + 1) cp) rfl
          have kf := HD5.out.1.cu.blk.frozen
          have HPP := Lib.hid HD5.out.1.pop
          clear u1
          go_wp2_with fail
          go_roundg (gk - 1)
          case measure => omega
          case rel => exact ⟨r1, by omega, by omega, Lib.hid ⟨HTI1.out, F1, P1, _, HPP.out.1, ((((N1.out.trans H2.out.2).trans H3.out.2).trans H4.out.2).trans HD5.out.2).trans HPP.out.2, HZ.out⟩⟩
      · have hgd : decide (0 ≤ x1.at_ + by_) = false := decide_eq_false hge
        have HZ : Hid (moveA G by_ (r1.map FrE.pl) = moveA G by_ (st.map FrE.pl)) := Lib.hid (by
          rw [← E1.out]
          show _ = moveA G by_ ((x1.node, x1.at_) :: r1.map FrE.pl)
          rw [moveA, if_neg (by omega)])
        go_wp2_with fail
        go_quiet (fail)
        clear d4
        have H4 := Lib.hid (H3.out.1.ext ((Mods.refl _ W3).drewN nq))
        go_wp2_with fail
        obtain ⟨W5, hW5⟩ : ∃ W5, W3.drewN nq = W5 := ⟨_, rfl⟩
        rw [hW5] at H4 ⊢
        have k4 := H4.out.1.cu.blk.cell (o := 4) (v := .slice (some ⟨g, 0, none⟩) (r1.length + 1) cp) rfl
        have kf := H4.out.1.cu.blk.frozen
        clear hW5
        have u1 : IntKind.i64.wrap (r1.length : Int) = (r1.length : Int) := IntWalk.i64_in _ (by omega)
        have u2 : (0 : Int) ≤ (r1.length : Int) := by omega
        have u3 : (r1.length : Int) ≤ (cp : Int) := by omega
        have u4 : r1.length ≤ cp := by omega
        go_still_tail 14, (by kernel_rfl)
        change wpList _ _ _ _ _ W5.drew
        have HD5 := Lib.hid (H4.out.1.ext (Mods.refl _ W5).drew)
        clear k4 kf
        have k4 := HD5.out.1.cu.blk.cell (o := 4) (v := .slice (some ⟨g, 0, none⟩) (r1.length + 1) cp) rfl
        have kf := HD5.out.1.cu.blk.frozen
        have HPP := Lib.hid HD5.out.1.pop
        clear u1
        go_wp2_with fail
        go_roundg (gk - 1)
        case measure => omega
        case rel => exact ⟨r1, by omega, by omega, Lib.hid ⟨HTI1.out, F1, P1, _, HPP.out.1, ((((N1.out.trans H2.out.2).trans H3.out.2).trans H4.out.2).trans HD5.out.2).trans HPP.out.2, HZ.out⟩⟩
end
end Go.Proofs.YtepafbokbfcbgaaGreatDoor
namespace Go.Proofs.YtepafbokbfcbgaaGreatDoor
open Go.RowKit
attribute [local go_sem ↓] Go.wp_at_zero Go.wp_at_succ
section
variable {F P P' F' P1 F1 : Nat → Prop} {ad : Nat → Addr} {w w' w0 w1 : World} {base c s gen kb : Nat} {root : Int} {G G' : GA} {l l' : List Nat} {sv sv' : Value} {st st' : List FrE} {x : FrE}
set_option maxRecDepth 100000 in
set_option maxHeartbeats 2000000 in
theorem seek_any (key : ByteArray) (h : CuI F P ad w base c s gen kb root G l sv st) (ht : G.total) :
    Calls Tryz.prog 64 #[.pointer (some ⟨kb, 0, none⟩), .string key] w (CuD F P ad w base c s gen kb root G l sv (seekA G root key)) := by
  have H := Lib.hid h
  have HT := Lib.hid ht
  obtain ⟨pa, pc, rfl, -, -⟩ := _root_.id h.cu.row.form
  have k4 := h.cu.blk.cell (o := 4) (v := .slice pa st.reverse.length pc) rfl
  have k3 := h.cu.blk.cell (o := 3) (v := .int .i64 root) rfl
  have kf := h.cu.blk.frozen
  have H1 := Lib.hid h.nul
  by_cases hr : root = 0
  · have hrb : (root == 0) = true := beq_iff_eq.2 hr
    have HV : Hid (seekA G root key = .inl []) := Lib.hid (by unfold seekA; rw [if_pos hr])
    clear h ht hr
    go_enter Tryz.func64, Tryz.ntmps64
    go_wp2_with fail
    go_ret
    exact CuD.good H1.out.1 H1.out.2 HV.out
  · have hrb : (root == 0) = false := beq_eq_false_iff_ne.2 hr
    have HV : Hid (seekA G root key = match seekDown G key 17 [] root with
      | .inr e => .inr e
      | .inl [] => .inl []
      | .inl ((n, a) :: r) => if a < (n.entries.length : Int) then .inl ((n, a) :: r) else moveA G 1 ((n, a - 1) :: r)) := Lib.hid (by unfold seekA; rw [if_neg hr]; rfl)
    clear h ht hr
    go_enter Tryz.func64, Tryz.ntmps64
    go_wp2_with fail
    clear k3 k4 kf
    go_loopg [5] 17 (fun m v5 wr => ∃ (st1 : List FrE) (id1 : Int), m + st1.length = 17 ∧ v5 = .int .i64 id1 ∧ Hid (TightF st1 ∧ ∃ (F1 P1 : Nat → Prop) (sv1 : Value), CuI F1 P1 ad wr base c s gen kb root G l sv1 st1 ∧ Nxt (cuQ P kb (.slice pa st.reverse.length pc)) (cuQ P1 kb sv1) F F1 ad w wr ∧ seekDown G key (17 - st1.length) (st1.map FrE.pl) id1 = seekDown G key 17 [] root))
    case atStart => exact ⟨[], root, by simp, rfl, Lib.hid ⟨fun x hx => by simp at hx, F, P, _, H1.out.1, H1.out.2, rfl⟩⟩
    case round =>
      obtain ⟨st1, id1, hk, rfl, HR⟩ := hrel
      obtain ⟨-, F1, P1, sv1, h1, n1, e1⟩ := HR.out
      have hl1 := h1.cu.few
      have H2 := Lib.hid h1
      have N1 := Lib.hid n1
      have E1 := Lib.hid e1
      have HPU := Lib.hid (push_any h1 HT.out id1)
      have HST : Hid (seekDown G key 17 [] root = match pushA G (st1.map FrE.pl) id1 with
        | .inr e => .inr e
        | .inl [] => .inl []
        | .inl ((n, _) :: r) => if n.leaf = true then .inl ((n, ((findN n key).1 : Int)) :: r) else seekDown G key (16 - st1.length) ((n, ((findN n key).1 : Int)) :: r) (n.kids.getD (findN n key).1 0)) := Lib.hid (by
        rw [← e1]
        obtain ⟨f, hf⟩ : ∃ f, 17 - st1.length = f + 1 := ⟨16 - st1.length, by omega⟩
        have hf2 : 16 - st1.length = f := by omega
        rw [hf, hf2, seekDown]
        rfl)
      clear h1 n1 e1
      go_wp2_with fail
      refine (HPU.out).mono ?_
      rintro e w4 hd
      cases hp : pushA G (st1.map FrE.pl) id1 with
      | inr er =>
        obtain ⟨el, ek⟩ := er
        rw [hp] at hd HST
        obtain ⟨P4, F4, sv4, st4, h4, n4, f, rfl, hE⟩ := hd
        have H4 := Lib.hid h4
        have N4 := Lib.hid n4
        have HE := Lib.hid hE
        clear h4 n4 hE hp
        go_wp2_with fail
        go_ret
        exact CuD.bad H4.out (N1.out.trans N4.out) HE.out (by rw [HV.out, HST.out])
      | inl sa =>
        rw [hp] at hd
        obtain ⟨P4, F4, sv4, st4, h4, n4, rfl, hsa⟩ := hd
        obtain ⟨_, n, hsn, _⟩ := pushA_ok H2.out.cu.ok hp
        rw [hsn] at hsa
        obtain ⟨y, r2, rfl⟩ : ∃ y r2, st4 = y :: r2 := by
          cases st4 with
          | nil => simp at hsa
          | cons y r2 => exact ⟨y, r2, rfl⟩
        rw [List.map_cons] at hsa
        injection hsa with hs1 hs2
        have hyn : y.node = n := congrArg Prod.fst hs1
        have hrl : r2.length = st1.length := by have := congrArg List.length hs2; simpa using this
        have hr2 : r2.length ≤ 15 := by have := h4.cu.few; simp at this; omega
        have hrl1 : st1.length ≤ r2.length := by omega
        have hrl2 : r2.length ≤ st1.length := by omega
        have HTI2 : Hid (TightF r2) := Lib.hid (fun z hz => by
          have hz2 : z.pl ∈ st1.map FrE.pl := by rw [← hs2]; exact List.mem_map_of_mem hz
          obtain ⟨u, hu, hue⟩ := List.mem_map.1 hz2
          have := HR.out.1 u hu
          have he : u.at_ = z.at_ := congrArg Prod.snd hue
          rw [he] at this
          exact this)
        have HST2 : Hid (seekDown G key 17 [] root = if y.node.leaf = true then .inl ((y.node, ((findN y.node key).1 : Int)) :: r2.map FrE.pl) else seekDown G key (16 - r2.length) ((y.node, ((findN y.node key).1 : Int)) :: r2.map FrE.pl) (y.node.kids.getD (findN y.node key).1 0)) := Lib.hid (by
          rw [HST.out, hp, hsn, hyn, hs2, hrl])
        have H4 := Lib.hid h4
        have N4 := Lib.hid (N1.out.trans n4)
        have HRN : Hid (rightN y.node = true) := Lib.hid (h4.cu.ok.1 y.pl (by simp)).1
        clear h4 n4 hsn hp hs1 hs2 hyn hrl HST HR
        obtain ⟨g, cp, rfl, b4, b5, -, -⟩ := _root_.id H4.out.form
        have HT4 := Lib.hid (top_any H4.out.cu.blk rfl (by omega))
        go_wp2_with fail
        refine (HT4.out).mono ?_
        rintro e w5 ⟨rfl, hm5⟩
        have H5 := Lib.hid (H4.out.ext hm5)
        obtain ⟨f5, c0, c1, c2, c3, c4⟩ := H5.out.1.cells
        have hfr := H5.out.1.cu.fr y List.mem_cons_self
        have HFN := Lib.hid (findNode_any y.node key (.slice y.ea y.node.entries.length y.ec) (.slice y.ka y.node.keys.length y.kc) (.slice y.ia y.node.kids.length y.ic) hfr.es hfr.ks)
        clear hm5 hfr f5 c4
        go_wp2_with fail
        refine (HFN.out).mono ?_
        rintro e w6 ⟨rfl, hm6⟩
        have H6 := Lib.hid (H5.out.1.ext hm6)
        clear c0 c1 c2 c3 hm6
        obtain ⟨f6, -, -, -, -, c4⟩ := H6.out.1.cells
        obtain ⟨a, ha⟩ : ∃ a, a = (findN y.node key).1 := ⟨_, rfl⟩
        rw [← ha] at HST2 ⊢
        have hal := findN_le HRN.out key
        rw [← ha] at hal
        obtain ⟨ha1, ha2, ha3⟩ := hal
        have H7 := Lib.hid (H6.out.1.put (a : Int) ⟨HRN.out, by show (-2 : Int) ≤ (a : Int); omega, by show (a : Int) ≤ 65537; omega⟩)
        obtain ⟨W7, hW7⟩ : ∃ W7, w6.setCell ⟨g, r2.length * 5 + 4, none⟩ (.int .i64 (a : Int)) = W7 := ⟨_, rfl⟩
        have N7 := Lib.hid (((N4.out.trans H5.out.2).trans H6.out.2).trans H7.out.2)
        have HA := Lib.hid ha
        clear ha
        rw [hW7] at H7 N7
        have HW7 := Lib.hid hW7
        obtain ⟨f6b, c0, c1, c2, c3, -⟩ := H6.out.1.cells
        obtain ⟨f7, d0, d1, -, d3, d4⟩ := H7.out.1.cells
        have HTA : Hid (TightF ({ y with at_ := (a : Int) } :: r2 : List FrE)) := Lib.hid (fun z hz => by
          rcases List.mem_cons.1 hz with rfl | hz
          · exact ⟨by show (-1 : Int) ≤ (a : Int); omega, by show (a : Int) ≤ 65536; omega⟩
          · exact HTI2.out z hz)
        cases hlf : y.node.leaf with
        | true =>
          have hae := ha2 hlf
          rw [hlf] at d0 c0
          have HSD : Hid (seekDown G key 17 [] root = .inl ((y.node, (a : Int)) :: r2.map FrE.pl)) := Lib.hid (by rw [HST2.out, if_pos hlf])
          have hle : y.node.entries.length ≤ 65535 := (rightN_few HRN.out).1
          have HTQ := Lib.hid (top_q H7.out.1.cu.blk rfl (by omega))
          have HT8 := Lib.hid (fun q => top_any (H7.out.1.ext ((Mods.refl _ W7).drewN q)).1.cu.blk rfl (by omega))
          clear ha2 ha3 hW7 hlf f7 d0 d3 f6b c1 c2 c3
          go_wp2_with fail
          rw [HW7.out]
          by_cases hlt : a < y.node.entries.length
          · have hlti : (a : Int) < (y.node.entries.length : Int) := by omega
            have hltd : decide (a < y.node.entries.length) = true := decide_eq_true hlt
            have HZ : Hid (seekA G root key = .inl (({ y with at_ := (a : Int) } :: r2 : List FrE).map FrE.pl)) := Lib.hid (by rw [HV.out, HSD.out]; exact if_pos hlti)
            go_quiet ((go_at_call 70; exact HTQ.out _))
            go_wp2_with fail
            go_ret
            have H8 := H7.out.1.ext ((Mods.refl _ W7).drewN nq)
            exact CuD.good H8.1 (N7.out.trans H8.2) HZ.out
          · have hlti : ¬ (a : Int) < (y.node.entries.length : Int) := by omega
            have hltd : decide (a < y.node.entries.length) = false := decide_eq_false hlt
            have HZ : Hid (seekA G root key = moveA G 1 (({ y with at_ := (a : Int) - 1 } :: r2 : List FrE).map FrE.pl)) := Lib.hid (by rw [HV.out, HSD.out]; exact if_neg hlti)
            go_quiet ((go_at_call 70; exact HTQ.out _))
            clear d1 d4
            have H8 := Lib.hid (H7.out.1.ext ((Mods.refl _ W7).drewN nq))
            go_wp2_with fail
            refine (HT8.out _).mono ?_
            rintro e w9 ⟨rfl, hm9⟩
            have H9 := Lib.hid (H8.out.1.ext hm9)
            obtain ⟨f9, -, -, -, -, c9⟩ := H9.out.1.cells
            have H10 := Lib.hid (H9.out.1.put ((a : Int) - 1) ⟨HRN.out, by show (-2 : Int) ≤ (a : Int) - 1; omega, by show (a : Int) - 1 ≤ 65537; omega⟩)
            have HMV := Lib.hid (move_any 1 (by omega) (by omega) H10.out.1 (fun z hz => by
              rcases List.mem_cons.1 hz with rfl | hz
              · exact ⟨by show (-1 : Int) ≤ (a : Int) - 1; omega, by show (a : Int) - 1 ≤ 65536; omega⟩
              · exact HTI2.out z hz) HT.out)
            clear hm9
            go_wp2_with fail
            refine (HMV.out).mono ?_
            rintro e w11 hd
            obtain ⟨v, rfl⟩ := hd.form
            have HD11 := Lib.hid hd
            clear hd f9 c9
            go_wp2_with fail
            go_ret
            rw [HZ.out]
            exact HD11.out.pre (((N7.out.trans H8.out.2).trans H9.out.2).trans H10.out.2)
        | false =>
          have hak := ha3 hlf
          rw [hlf] at d0 c0
          obtain ⟨ib, ioff, hia, hic⟩ := (H7.out.1.cu.fr { y with at_ := (a : Int) } List.mem_cons_self).is.elem (k := a) hak (Mods.refl _ _)
          obtain ⟨kid, hkid⟩ : ∃ kid, kid = y.node.kids[a] := ⟨_, rfl⟩
          have e0 := hic 0 (.int .i64 kid) (by rw [hkid]; rfl)
          simp only [Nat.mul_one, Nat.add_zero] at e0
          have HSD : Hid (seekDown G key (17 - ({ y with at_ := (a : Int) } :: r2 : List FrE).length) (({ y with at_ := (a : Int) } :: r2 : List FrE).map FrE.pl) kid = seekDown G key 17 [] root) := Lib.hid (by
            rw [HST2.out, if_neg (by rw [hlf]; simp)]
            have e1 : y.node.kids.getD a 0 = kid := by rw [hkid]; simp [List.getD, hak]
            have e2 : 17 - ({ y with at_ := (a : Int) } :: r2 : List FrE).length = 16 - r2.length := by rw [List.length_cons]; omega
            rw [e1, e2]
            rfl)
          have i1 : (0 : Int) ≤ (a : Int) := by omega
          have i2 : (a : Int) < (y.node.kids.length : Int) := by omega
          rw [show ({ y with at_ := (a : Int) } : FrE).ia = y.ia from rfl] at hia
          rw [show ({ y with at_ := (a : Int) } : FrE).ia = y.ia from rfl, hia] at d3
          clear ha2 ha3 hW7 hlf f7 d0 d1 f6b c1 c2 c3 hic hkid hak hia
          go_wp2_with fail
          rw [HW7.out]
          go_quiet (fail)
          clear d3 d4 e0
          have H8 := Lib.hid (H7.out.1.ext ((Mods.refl _ W7).drewN nq))
          go_wp2_with fail
          go_roundg (gk - 1)
          case measure => omega
          case rel => exact ⟨{ y with at_ := (a : Int) } :: r2, kid, by rw [List.length_cons]; omega, rfl, Lib.hid ⟨HTA.out, F4, P4, _, H8.out.1, N7.out.trans H8.out.2, HSD.out⟩⟩
end
end Go.Proofs.YtepafbokbfcbgaaGreatDoor
