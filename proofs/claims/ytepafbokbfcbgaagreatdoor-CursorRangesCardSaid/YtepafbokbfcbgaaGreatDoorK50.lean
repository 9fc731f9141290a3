/- cursor: fail, First, Last, Next, Prev, Seek, On. | cursor: Seek, On, Key, Value. | cursor: Value on; New; open. | ref12: Bound, Seek, On, Step. | A law's state with a cursor; the cursor's methods on a tree of pairs. -/
import Derived.Test.YtepafbokbfcbgaaGreatDoorK49
import Derived.Test.YtepafbokbfcbgaaGreatDoorK06
import Derived.Test.YtepafbokbfcbgaaGreatDoorK31
import Derived.Deep.RegionHeld3
import Derived.Test.YtepafbokbfcbgaaGreatDoorK47
import Derived.Test.YtepafbokbfcbgaaGreatDoorK28
import Derived.Test.YtepafbokbfcbgaaGreatDoorK34
import Derived.Test.YtepafbokbfcbgaaGreatDoorK32
import Derived.Test.YtepafbokbfcbgaaGreatDoorK22
namespace Go.Proofs.YtepafbokbfcbgaaGreatDoor
open Go.RowKit
attribute [local go_sem ↓] Go.wp_at_zero Go.wp_at_succ
section
variable {F P P' F' P1 F1 : Nat → Prop} {ad : Nat → Addr} {w w' w0 w1 : World} {base c s gen kb : Nat} {root : Int} {G G' : GA} {l l' : List Nat} {sv sv' : Value} {st st' : List FrE} {x : FrE}
/-- behind a cursor's call. -/
def CuF (F P : Nat → Prop) (ad : Nat → Addr) (w : World) (base c s gen kb : Nat) (root : Int) (G : GA) (l : List Nat) (sv : Value) (r : StA ⊕ Err) (e : Ending) (w' : World) : Prop :=
  ∃ (P' F' : Nat → Prop) (sv' : Value) (st' : List FrE), CuI F' P' ad w' base c s gen kb root G l sv' st' ∧ Nxt (cuQ P kb sv) (cuQ P' kb sv') F F' ad w w' ∧
    match r with
    | .inl sa => e = .returned .nilIface ∧ st'.map FrE.pl = sa
    | .inr (el, ek) => st' = [] ∧ ∃ f, e = .returned (faultV f) ∧ ErrC F' ad w' (faultV f) (-1 :: el) ek
set_option maxRecDepth 100000 in
theorem fail_nil (op : ByteArray) (w : World) : Calls Tryz.prog 63 #[.pointer (some ⟨kb, 0, none⟩), .string op, .nilIface] w fun e w' => e = .returned .nilIface ∧ w = w' := by
  go_enter Tryz.func63, Tryz.ntmps63
  go_wp2_with fail
  refine (wrap_nil op w).mono ?_
  rintro e w1 ⟨rfl, rfl⟩
  go_wp2_with fail
  go_ret
  exact ⟨rfl, rfl⟩
set_option maxRecDepth 100000 in
theorem fail_err (op : ByteArray) (h : CuI F P ad w base c s gen kb root G l sv st) {f : Nat} {el : List Int} {ek : Nat} (hE : ErrC F ad w (faultV f) el ek) :
    Calls Tryz.prog 63 #[.pointer (some ⟨kb, 0, none⟩), .string op, faultV f] w fun e w' => ∃ f', CuI F P ad w' base c s gen kb root G l (.slice none 0 0) [] ∧ Nxt (cuQ P kb sv) (cuQ P kb (.slice none 0 0)) F F ad w w' ∧ e = .returned (faultV f') ∧ ErrC F ad w' (faultV f') (-1 :: el) ek := by
  have H := Lib.hid h
  obtain ⟨pa, pc, rfl, -, -⟩ := _root_.id h.cu.row.form
  have k4 := h.cu.blk.cell (o := 4) (v := .slice pa st.reverse.length pc) rfl
  have kf := h.cu.blk.frozen
  have H1 := Lib.hid h.nul
  have hE1 := hE.mods (Mods.setCell (F := F) (p := ⟨kb, 4, none⟩) (Mods.refl _ w) (.inr (h.cu.nP kb (.inl rfl)).1) (.slice none 0 0))
  have HW := Lib.hid (wrap_any H1.out.1.env op _ _ _ hE1)
  clear h hE hE1
  go_enter Tryz.func63, Tryz.ntmps63
  go_wp2_with fail
  refine (HW.out).mono ?_
  rintro e w2 ⟨f2, rfl, hE2, hm2⟩
  have HE2 := Lib.hid hE2
  have H2 := Lib.hid (H1.out.1.ext hm2)
  clear hE2 hm2
  go_wp2_with fail
  go_ret
  exact ⟨f2, H2.out.1, H1.out.2.trans H2.out.2, rfl, HE2.out⟩
set_option maxRecDepth 100000 in
set_option maxHeartbeats 1000000 in
theorem next_any (h : CuI F P ad w base c s gen kb root G l sv st) (hti : TightF st) (ht : G.total) :
    Calls Tryz.prog 27 #[.pointer (some ⟨kb, 0, none⟩)] w (CuF F P ad w base c s gen kb root G l sv (moveA G 1 (st.map FrE.pl))) := by
  have HC := Lib.hid (move_any 1 (by omega) (by omega) h hti ht)
  clear h ht hti
  go_enter Tryz.func27, Tryz.ntmps27
  go_wp2_with fail
  refine (HC.out).mono ?_
  rintro e w1 hd
  cases hr : moveA G 1 (st.map FrE.pl) with
  | inl sa =>
    rw [hr] at hd
    obtain ⟨P1, F1, sv1, st1, h1, n1, rfl, hsa⟩ := hd
    have H1 := Lib.hid h1
    have N1 := Lib.hid n1
    have HS := Lib.hid hsa
    have HR := Lib.hid hr
    clear h1 n1 hsa hr
    go_wp2_with fail
    refine (fail_nil _ _).mono ?_
    rintro e w2 ⟨rfl, rfl⟩
    go_wp2_with fail
    go_ret
    refine ⟨P1, F1, sv1, st1, H1.out, N1.out, ?_⟩
    rw [HR.out]
    exact ⟨rfl, HS.out⟩
  | inr er =>
    obtain ⟨el, ek⟩ := er
    rw [hr] at hd
    obtain ⟨P1, F1, sv1, st1, h1, n1, f, rfl, hE⟩ := hd
    have HF := Lib.hid (fun op => fail_err op h1 hE)
    have N1 := Lib.hid n1
    have HR := Lib.hid hr
    clear h1 n1 hE hr
    go_wp2_with fail
    refine (HF.out _).mono ?_
    rintro e w2 ⟨f2, h2, n2, rfl, hE2⟩
    have H2 := Lib.hid h2
    have N2 := Lib.hid (N1.out.trans n2)
    have HE2 := Lib.hid hE2
    clear h2 n2 hE2
    go_wp2_with fail
    go_ret
    refine ⟨P1, F1, _, [], H2.out, N2.out, ?_⟩
    rw [HR.out]
    exact ⟨rfl, f2, rfl, HE2.out⟩
def boundB (s : ByteArray) : Bool := decide (s = ⟨#[]⟩) || keyB s
set_option maxRecDepth 100000 in
theorem bound_any (s : ByteArray) (w : World) : Calls Tryz.prog 62 #[.string s] w fun e w' => e = .returned (.bool (boundB s)) ∧ w = w' := by
  have HK := Lib.hid (key_any s w)
  by_cases h : s = ⟨#[]⟩
  · subst h
    have HB : Hid (boundB ⟨#[]⟩ = true) := Lib.hid rfl
    go_enter Tryz.func62, Tryz.ntmps62
    go_wp2_with fail
    go_ret
    rw [HB.out]
    exact ⟨rfl, rfl⟩
  · have HB : Hid (boundB s = keyB s) := Lib.hid (by unfold boundB; rw [decide_eq_false h]; rfl)
    have h1 : s.toList ≠ [] := fun e => h (toList_inj (by rw [e]; simp [ByteArray.toList_eq]))
    have h2 : s.toList.isEmpty = false := by
      cases hs : s.toList with
      | nil => exact absurd hs h1
      | cons _ _ => rfl
    have h3 : (s.toList == []) = false := beq_eq_false_iff_ne.2 h1
    clear h
    go_enter Tryz.func62, Tryz.ntmps62
    go_wp2_with fail
    refine (HK.out).mono ?_
    rintro e w1 ⟨rfl, rfl⟩
    go_wp2_with fail
    go_ret
    rw [HB.out]
    exact ⟨rfl, rfl⟩
end
end Go.Proofs.YtepafbokbfcbgaaGreatDoor
namespace Go.Proofs.YtepafbokbfcbgaaGreatDoor
open Go.RowKit
attribute [local go_sem ↓] Go.wp_at_zero Go.wp_at_succ
/-- Seek, of any text. -/
def seekB (G : GA) (root : Int) (key : ByteArray) : StA ⊕ Err := if boundB key = true then seekA G root key else .inr ([-1], 2)
section
variable {F P P' F' P1 F1 : Nat → Prop} {ad : Nat → Addr} {w w' w0 w1 : World} {base c s gen kb : Nat} {root : Int} {G G' : GA} {l l' : List Nat} {sv sv' : Value} {st st' : List FrE} {x : FrE}
set_option maxRecDepth 100000 in
set_option maxHeartbeats 1000000 in
theorem seekB_any (key : ByteArray) (h : CuI F P ad w base c s gen kb root G l sv st) (ht : G.total) :
    Calls Tryz.prog 26 #[.pointer (some ⟨kb, 0, none⟩), .string key] w (CuF F P ad w base c s gen kb root G l sv (seekB G root key)) := by
  have HB := Lib.hid (bound_any key w)
  cases hb : boundB key with
  | true =>
    have HC := Lib.hid (seek_any key h ht)
    have HV : Hid (seekB G root key = seekA G root key) := Lib.hid (by unfold seekB; rw [if_pos hb])
    rw [hb] at HB
    clear h ht hb
    go_enter Tryz.func26, Tryz.ntmps26
    go_wp2_with fail
    refine (HB.out).mono ?_
    rintro e w1 ⟨rfl, rfl⟩
    go_wp2_with fail
    refine (HC.out).mono ?_
    rintro e w1 hd
    cases hr : seekA G root key with
    | inl sa =>
      rw [hr] at hd
      obtain ⟨P1, F1, sv1, st1, h1, n1, rfl, hsa⟩ := hd
      have H1 := Lib.hid h1
      have N1 := Lib.hid n1
      have HS := Lib.hid hsa
      have HR := Lib.hid hr
      clear h1 n1 hsa hr
      go_wp2_with fail
      refine (fail_nil _ _).mono ?_
      rintro e w2 ⟨rfl, rfl⟩
      go_wp2_with fail
      go_ret
      refine ⟨P1, F1, sv1, st1, H1.out, N1.out, ?_⟩
      rw [HV.out, HR.out]
      exact ⟨rfl, HS.out⟩
    | inr er =>
      obtain ⟨el, ek⟩ := er
      rw [hr] at hd
      obtain ⟨P1, F1, sv1, st1, h1, n1, f, rfl, hE⟩ := hd
      have HF := Lib.hid (fun op => fail_err op h1 hE)
      have N1 := Lib.hid n1
      have HR := Lib.hid hr
      clear h1 n1 hE hr
      go_wp2_with fail
      refine (HF.out _).mono ?_
      rintro e w2 ⟨f2, h2, n2, rfl, hE2⟩
      have H2 := Lib.hid h2
      have N2 := Lib.hid (N1.out.trans n2)
      have HE2 := Lib.hid hE2
      clear h2 n2 hE2
      go_wp2_with fail
      go_ret
      refine ⟨P1, F1, _, [], H2.out, N2.out, ?_⟩
      rw [HV.out, HR.out]
      exact ⟨rfl, f2, rfl, HE2.out⟩
  | false =>
    have HV : Hid (seekB G root key = .inr ([-1], 2)) := Lib.hid (by unfold seekB; rw [if_neg (by rw [hb]; simp)])
    have c2 := h.env.c2
    have H := Lib.hid h
    rw [hb] at HB
    clear h ht hb
    go_enter Tryz.func26, Tryz.ntmps26
    go_wp2_with fail
    refine (HB.out).mono ?_
    rintro e w1 ⟨rfl, rfl⟩
    go_wp2_with fail
    refine (new_any H.out.env _ _ [] 2 (.sent 2 (by decide) (by decide))).mono ?_
    rintro e w1 ⟨f, rfl, hE, hm⟩
    have H1 := Lib.hid (H.out.ext hm)
    have HF := Lib.hid (fun op => fail_err op H1.out.1 hE)
    clear hE hm c2
    go_wp2_with fail
    refine (HF.out _).mono ?_
    rintro e w2 ⟨f2, h2, n2, rfl, hE2⟩
    have H2 := Lib.hid h2
    have N2 := Lib.hid (H1.out.2.trans n2)
    have HE2 := Lib.hid hE2
    clear h2 n2 hE2
    go_wp2_with fail
    go_ret
    refine ⟨P, F, _, [], H2.out, N2.out, ?_⟩
    rw [HV.out]
    exact ⟨rfl, f2, rfl, HE2.out⟩
set_option maxRecDepth 100000 in
theorem on_any (h : CuI F P ad w base c s gen kb root G l sv st) :
    Calls Tryz.prog 28 #[.pointer (some ⟨kb, 0, none⟩)] w fun e w' => e = .returned (.bool (!st.isEmpty)) ∧ w = w' := by
  obtain ⟨pa, pc, rfl, -, -⟩ := _root_.id h.cu.row.form
  have hrl : st.reverse.length = st.length := List.length_reverse
  rw [hrl] at h
  have k4 := h.cu.blk.cell (o := 4) (v := .slice pa st.length pc) rfl
  clear h hrl
  cases st with
  | nil =>
    simp only [List.length_nil] at k4
    go_enter Tryz.func28, Tryz.ntmps28
    go_wp2_with fail
    go_ret
    exact ⟨rfl, rfl⟩
  | cons x r =>
    simp only [List.length_cons] at k4
    go_enter Tryz.func28, Tryz.ntmps28
    go_wp2_with fail
    go_ret
    exact ⟨rfl, rfl⟩
set_option maxRecDepth 100000 in
set_option maxHeartbeats 1000000 in
theorem key_on {r : List FrE} {a : Nat} {e : EntryA} (h : CuI F P ad w base c s gen kb root G l sv (x :: r)) (ha : x.at_ = (a : Int)) (he : x.node.entries[a]? = some e) :
    Calls Tryz.prog 39 #[.pointer (some ⟨kb, 0, none⟩)] w fun en w' => en = .returned (.string e.key) ∧ ∃ q, w' = w.drewN q := by
  have HO := Lib.hid (on_any h)
  simp only [List.isEmpty_cons, Bool.not_false] at HO
  obtain ⟨g, cp, rfl, b1, b2, b3, -, c1, -, -, c4⟩ := h.form
  have hr : r.length ≤ 15 := by have := h.cu.few; simp at this; omega
  have HTQ := Lib.hid (top_q h.cu.blk rfl (by omega))
  obtain ⟨hal, hae⟩ := List.getElem?_eq_some_iff.1 he
  obtain ⟨eb, eoff, hea, hec⟩ := (h.cu.fr x List.mem_cons_self).es.elem hal (Mods.refl _ _)
  have d0 := hec 0 (.string e.key) (by rw [hae]; rfl)
  simp only [Nat.add_zero] at d0
  rw [hea] at c1
  rw [ha] at c4
  have i1 : (0 : Int) ≤ (a : Int) := by omega
  have i2 : (a : Int) < (x.node.entries.length : Int) := by omega
  clear h hec hea ha hae he b3
  go_enter Tryz.func39, Tryz.ntmps39
  go_wp2_with fail
  refine (HO.out).mono ?_
  rintro e w1 ⟨rfl, rfl⟩
  go_wp2_with fail
  go_quiet ((go_at_call 70; exact HTQ.out _))
  go_wp2_with fail
  go_ret
  exact ⟨rfl, _, rfl⟩
end
end Go.Proofs.YtepafbokbfcbgaaGreatDoor
namespace Go.Proofs.YtepafbokbfcbgaaGreatDoor
open Go.RowKit
attribute [local go_sem ↓] Go.wp_at_zero Go.wp_at_succ
section
variable {F P P' F' P1 F1 : Nat → Prop} {ad : Nat → Addr} {w w' w0 w1 : World} {base c s gen kb : Nat} {root : Int} {G G' : GA} {l l' : List Nat} {sv sv' : Value} {st st' : List FrE} {x : FrE}
set_option maxRecDepth 100000 in
set_option maxHeartbeats 4000000 in
theorem value_on {r : List FrE} {a : Nat} {e : EntryA} {v : ByteArray} (h : CuI F P ad w base c s gen kb root G l sv (x :: r)) (ha : x.at_ = (a : Int)) (he : x.node.entries[a]? = some e) (hv : valueA G e = .inl v) (hvo : valueOk G e) (hid : -9223372036854775808 ≤ e.chain ∧ e.chain ≤ 9223372036854775807) :
    Calls Tryz.prog 38 #[.pointer (some ⟨kb, 0, none⟩)] w fun en w' => en = .returned (.tuple #[.string v, .nilIface]) ∧ ∃ P' F', CuI F' P' ad w' base c s gen kb root G l sv (x :: r) ∧ Nxt (cuQ P kb sv) (cuQ P' kb sv) F F' ad w w' := by
  have HO := Lib.hid (on_any h)
  simp only [List.isEmpty_cons, Bool.not_false] at HO
  obtain ⟨g, cp, rfl, b1, b2, b3, -, c1, -, -, c4⟩ := h.form
  have hr : r.length ≤ 15 := by have := h.cu.few; simp at this; omega
  have HTQ := Lib.hid (top_q h.cu.blk rfl (by omega))
  have HT1 := Lib.hid (top_q h.cu.blk rfl (by omega) 1)
  obtain ⟨hal, hae⟩ := List.getElem?_eq_some_iff.1 he
  obtain ⟨eb, eoff, hea, hebF, hec⟩ := (h.cu.fr x List.mem_cons_self).es.elemF hal
  have d0 := hec 0 (.string e.key) (by rw [hae]; rfl)
  have d1 := hec 1 (.string e.value) (by rw [hae]; rfl)
  have d2 := hec 2 (.int .i64 e.chain) (by rw [hae]; rfl)
  have d3 := hec 3 (.int .i64 e.size) (by rw [hae]; rfl)
  simp only [Nat.add_zero] at d0
  rw [hea] at c1
  rw [ha] at c4
  have p0 := h.cu.blk.cell (o := 0) (v := .pointer (some ⟨c, 0, none⟩)) rfl
  have p1 := h.cu.blk.cell (o := 1) (v := .pointer (some ⟨s, 0, none⟩)) rfl
  have p2 := h.cu.blk.cell (o := 2) (v := .int .u64 (gen : Int)) rfl
  have i1 : (0 : Int) ≤ (a : Int) := by omega
  have i2 : (a : Int) < (x.node.entries.length : Int) := by omega
  have HNP : Hid (¬ P kb ∧ ¬ P g ∧ ¬ P eb) := Lib.hid ⟨(h.cu.nP kb (.inl rfl)).2, (h.cu.nP g (.inr rfl)).2, fun hp => hebF (h.sub _ hp)⟩
  have HVC : Hid (∀ q : Nat, _) := Lib.hid (fun q => value_any (h.env.mods ((Mods.refl _ w).drewN q).ext) h.sub (h.pg.at ((Mods.refl _ w).drewN q)) gen e hid hvo)
  rw [hv] at HVC
  unfold pgV at HVC
  have HVC1 := Lib.hid (HVC.out 1)
  have HD : Hid (∀ q, (w.drewN q).cell? ⟨kb, 0, none⟩ = some (.pointer (some ⟨c, 0, none⟩)) ∧ (w.drewN q).cell? ⟨kb, 1, none⟩ = some (.pointer (some ⟨s, 0, none⟩)) ∧ (w.drewN q).cell? ⟨kb, 2, none⟩ = some (.int .u64 (gen : Int)) ∧ (w.drewN q).cell? ⟨g, r.length * 5 + 1, none⟩ = some (.slice (some ⟨eb, eoff, none⟩) x.node.entries.length x.ec) ∧ (w.drewN q).cell? ⟨g, r.length * 5 + 4, none⟩ = some (.int .i64 (a : Int)) ∧
      (w.drewN q).cell? ⟨eb, eoff + a * 4, none⟩ = some (.string e.key) ∧ (w.drewN q).cell? ⟨eb, eoff + a * 4 + 1, none⟩ = some (.string e.value) ∧ (w.drewN q).cell? ⟨eb, eoff + a * 4 + 2, none⟩ = some (.int .i64 e.chain) ∧ (w.drewN q).cell? ⟨eb, eoff + a * 4 + 3, none⟩ = some (.int .i64 e.size)) :=
    Lib.hid (fun q => ⟨cellE ((Mods.refl _ w).drewN q) p0, cellE ((Mods.refl _ w).drewN q) p1, cellE ((Mods.refl _ w).drewN q) p2, cellE ((Mods.refl _ w).drewN q) c1, cellE ((Mods.refl _ w).drewN q) c4, cellE ((Mods.refl _ w).drewN q) d0, cellE ((Mods.refl _ w).drewN q) d1, cellE ((Mods.refl _ w).drewN q) d2, cellE ((Mods.refl _ w).drewN q) d3⟩)
  have H := Lib.hid h
  clear h hec hea ha hae he b3 hv hvo hid hebF
  go_enter Tryz.func38, Tryz.ntmps38
  go_wp2_with fail
  refine (HO.out).mono ?_
  rintro en w1 ⟨rfl, rfl⟩
  go_wp2_with fail
  go_region_held3 (fun w' => w'.cell? ⟨kb, 0, none⟩ = some (.pointer (some ⟨c, 0, none⟩)) ∧ w'.cell? ⟨kb, 1, none⟩ = some (.pointer (some ⟨s, 0, none⟩)) ∧ w'.cell? ⟨kb, 2, none⟩ = some (.int .u64 (gen : Int)) ∧ w'.cell? ⟨g, r.length * 5 + 1, none⟩ = some (.slice (some ⟨eb, eoff, none⟩) x.node.entries.length x.ec) ∧ w'.cell? ⟨g, r.length * 5 + 4, none⟩ = some (.int .i64 (a : Int)) ∧
      w'.cell? ⟨eb, eoff + a * 4, none⟩ = some (.string e.key) ∧ w'.cell? ⟨eb, eoff + a * 4 + 1, none⟩ = some (.string e.value) ∧ w'.cell? ⟨eb, eoff + a * 4 + 2, none⟩ = some (.int .i64 e.chain) ∧ w'.cell? ⟨eb, eoff + a * 4 + 3, none⟩ = some (.int .i64 e.size))
    (first | (with_reducible exact ⟨p0, p1, p2, c1, c4, d0, d1, d2, d3⟩) | (with_reducible exact ⟨y0, y1, y2, y3, y4, z0, z1, z2, z3⟩) | (with_reducible exact HD.out _) | go_keep)
    (first
      | (go_at_call 70; (first | (with_reducible refine (HTQ.out _).mono ?_) | (refine (HT1.out).mono ?_)); rintro en w2 ⟨rfl, k2, rfl⟩)
      | (go_at_call 69; (first | (with_reducible refine (HVC.out _).mono ?_) | (refine (HVC1.out).mono ?_)); rintro en w4 ⟨P4, F4, hG4, hN4, rfl⟩; obtain ⟨y0, y1, y2, y3, y4, z0, z1, z2, z3⟩ := HD.out k2; replace y0 := cellM hN4.stp.mods y0 HNP.out.1; replace y1 := cellM hN4.stp.mods y1 HNP.out.1; replace y2 := cellM hN4.stp.mods y2 HNP.out.1; replace y3 := cellM hN4.stp.mods y3 HNP.out.2.1; replace y4 := cellM hN4.stp.mods y4 HNP.out.2.1; replace z0 := cellM hN4.stp.mods z0 HNP.out.2.2; replace z1 := cellM hN4.stp.mods z1 HNP.out.2.2; replace z2 := cellM hN4.stp.mods z2 HNP.out.2.2; replace z3 := cellM hN4.stp.mods z3 HNP.out.2.2)
      | fail)
  all_goals
    have HP := Lib.hid ((H.out.ext ((Mods.refl _ w).drewN _)).1.pag hN4 hG4)
    have HN := Lib.hid ((H.out.ext ((Mods.refl _ w).drewN _)).2.trans HP.out.2)
    clear hN4 hG4 p0 p1 p2 c1 c4 d0 d1 d2 d3
    go_wp2_with fail
    refine (wrap_nil _ _).mono ?_
    rintro en w5 ⟨rfl, rfl⟩
    go_wp2_with fail
    refine bodyPost_ret (v := .tuple #[.string v, .nilIface]) (by simp [results, Tryz.results38, go_sem]) rfl ?_
    exact ⟨rfl, P4, F4, HP.out.1, HN.out⟩
theorem Nxt.shrink {Q P2 : Nat → Prop} (n : Nxt P Q F F' ad w w') (h : ∀ k, P2 k → Q k) : Nxt P P2 F F' ad w w' :=
  ⟨⟨n.stp.mods, fun k hk hp => n.stp.old k hk (h k hp), fun k hp => n.stp.bd k (h k hp)⟩, fun k hp => n.sub k (h k hp), n.grow, n.oldF, n.env⟩
/-- a new cursor. -/
theorem CuI.start (hL : Env F ad w) (hP : ∀ k, P k → F k) (h : PgR F w P c s G l) (gen : Nat) (root : Int) :
    CuI (fun k => F k ∨ k = w.heap.size) P ad (w.alloc (.cells #[.pointer (some ⟨c, 0, none⟩), .pointer (some ⟨s, 0, none⟩), .int .u64 (gen : Int), .int .i64 root, .slice none 0 0] 125)) w.heap.size c s gen w.heap.size root G l (.slice none 0 0) [] ∧
    Nxt P (cuQ P w.heap.size (.slice none 0 0)) F (fun k => F k ∨ k = w.heap.size) ad w (w.alloc (.cells #[.pointer (some ⟨c, 0, none⟩), .pointer (some ⟨s, 0, none⟩), .int .u64 (gen : Int), .int .i64 root, .slice none 0 0] 125)) := by
  have m : Ext w (w.alloc (.cells #[.pointer (some ⟨c, 0, none⟩), .pointer (some ⟨s, 0, none⟩), .int .u64 (gen : Int), .int .i64 root, .slice none 0 0] 125)) := (Mods.refl _ w).alloc _
  have hb := Blk.new w #[.pointer (some ⟨c, 0, none⟩), .pointer (some ⟨s, 0, none⟩), .int .u64 (gen : Int), .int .i64 root, .slice none 0 0] 125
  have hnew : ∀ k, k < w.heap.size → ¬ F k → ¬ (F k ∨ k = w.heap.size) := fun k hk hn hf => by rcases hf with hf | hf; exact hn hf; omega
  have hE : Env (fun k => F k ∨ k = w.heap.size) ad (w.alloc (.cells #[.pointer (some ⟨c, 0, none⟩), .pointer (some ⟨s, 0, none⟩), .int .u64 (gen : Int), .int .i64 root, .slice none 0 0] 125)) :=
    hL.step m.ext hnew (fun k hk => by rcases hk with hk | hk; exact Nat.lt_of_lt_of_le (hL.lt k hk) m.size; exact hk ▸ hb.lt)
  have hB : ∀ k, CuB w.heap.size (.slice none 0 0) k → k = w.heap.size := fun k hk => by
    rcases hk with hk | hk
    · exact hk
    · simp [Value.ownBlock] at hk
  have hI : CuI (fun k => F k ∨ k = w.heap.size) P ad (w.alloc (.cells #[.pointer (some ⟨c, 0, none⟩), .pointer (some ⟨s, 0, none⟩), .int .u64 (gen : Int), .int .i64 root, .slice none 0 0] 125)) w.heap.size c s gen w.heap.size root G l (.slice none 0 0) [] :=
    ⟨hE, fun k hk => .inl (hP k hk), h.plus m (fun _ _ f => f) (fun k f => f.elim) hnew, ⟨hb, Own.nil _ _ _ _ _ _, fun x hx => by simp at hx, fun k hk => ⟨.inr (hB k hk), fun hp => by have := hL.lt k (hP k hp); have := hB k hk; omega⟩, ⟨fun x hx => by simp at hx, by simp⟩⟩, m.size⟩
  refine ⟨hI, ⟨⟨m.ext, ?_, hI.bd⟩, hI.subQ, fun k hk => .inl hk, fun k hk hf => by rcases hf with hf | hf; exact hf; omega, hE⟩⟩
  rintro k hk (hp | hp)
  · exact hp
  · have := hB k hp; omega
end
end Go.Proofs.YtepafbokbfcbgaaGreatDoor
namespace Go.Proofs.YtepafbokbfcbgaaGreatDoor
open Go.RowKit
attribute [local go_sem ↓] Go.wp_at_zero Go.wp_at_succ
section
variable {F : Nat → Prop} {w w' : World}
theorem bound12_any (s : ByteArray) (w : World) : Calls Tryz.prog 20 #[.string s] w fun e w' => e = .returned (.bool (boundB s)) ∧ w = w' := by
  have HK := Lib.hid (key07_any s w)
  by_cases h : s = ⟨#[]⟩
  · subst h
    have HB : Hid (boundB ⟨#[]⟩ = true) := Lib.hid rfl
    go_enter Tryz.func20, Tryz.ntmps20
    go_wp2_with fail
    go_ret
    rw [HB.out]
    exact ⟨rfl, rfl⟩
  · have HB : Hid (boundB s = keyB s) := Lib.hid (by unfold boundB; rw [decide_eq_false h]; rfl)
    have h1 : s.toList ≠ [] := fun e => h (toList_inj (by rw [e]; simp [ByteArray.toList_eq]))
    have h2 : s.toList.isEmpty = false := by
      cases hs : s.toList with
      | nil => exact absurd hs h1
      | cons _ _ => rfl
    have h3 : (s.toList == []) = false := beq_eq_false_iff_ne.2 h1
    clear h
    go_enter Tryz.func20, Tryz.ntmps20
    go_wp2_with fail
    refine (HK.out).mono ?_
    rintro e w1 ⟨rfl, rfl⟩
    go_wp2_with fail
    go_ret
    rw [HB.out]
    exact ⟨rfl, rfl⟩
/-- is a place one of a key? -/
def onI (n : Nat) (i : Int) : Bool := decide (0 ≤ i ∧ i < (n : Int))
/-- the place a step on. -/
def stepI (n : Nat) (i by_ : Int) : Int := if onI n i = true then i + by_ else -1
end
end Go.Proofs.YtepafbokbfcbgaaGreatDoor
namespace Go.Proofs.YtepafbokbfcbgaaGreatDoor
open Go.RowKit
attribute [local go_sem ↓] Go.wp_at_zero Go.wp_at_succ
theorem TrI.full {ps : List PageA} {gen id d : Nat} {pgs : List Nat} {G : GA} (h : TrI ps gen id d pgs) (hG : OnG G ps) : TrE G.node id d := by
  induction h with
  | leaf h1 h2 h3 _ => exact .leaf (hG.node h1) h2 h3
  | @inner id n d parts h1 h2 h3 _ _ _ ih =>
    refine .inner (hG.node h1) h2 (fun k hk => ?_)
    obtain ⟨i, hi, e⟩ := List.getElem_of_mem hk
    have hip : i < parts.length := by omega
    exact ih i k parts[i] (by rw [← e]; exact List.getElem?_eq_getElem hi) (List.getElem?_eq_getElem hip)
theorem TreeOn.full {l : List PairS} {e k : Nat} (hT : TreeOn (buildA 5 e k l).1 (buildA 5 e k l).2.1 (buildA 5 e k l).2.2 l) (he : 1 ≤ e) (he2 : e ≤ 3) (hk : 2 ≤ k) (hk2 : k ≤ 4) :
    TreeE (putsG (G0 200) (buildA 5 e k l).1) (buildA 5 e k l).2.1 (buildA 5 e k l).2.2 l := by
  refine ⟨hT.tree, fun hr => ?_⟩
  have h0 : l ≠ [] := by rintro rfl; exact hr rfl
  have hf := hT.few
  have hln := hT.tame.len
  obtain ⟨pgs, h1, _⟩ := build_I 5 e k he (by omega) hk (by omega) hT.tame.sorted hT.tame.ok h0 (by omega) (by omega) (hT.on.fits2 5)
  exact h1.full hT.on
section
variable {ad : Nat → Addr} {w0 w w' : World} {kb root D : Nat} {G : GA} {L : List PairS} {i : Int}
/-- a cursor at a place. -/
def CLS (ad : Nat → Addr) (w0 w : World) (kb root : Nat) (G : GA) (L : List PairS) (D : Nat) (i : Int) : Prop :=
  ∃ (F P : Nat → Prop) (base c s : Nat) (l0 : List Nat) (sv : Value) (st : List FrE), CuI F P ad w base c s 5 kb (root : Int) G l0 sv st ∧ Nxt NoB (cuQ P kb sv) NoB F ad w0 w ∧ OnPos G L D (st.map FrE.pl) i
theorem CLS.ext (h : CLS ad w0 w kb root G L D i) (m : Ext w w') : CLS ad w0 w' kb root G L D i := by
  obtain ⟨F, P, base, c, s, l0, sv, st, h1, h2, h3⟩ := h
  have h4 := h1.ext m
  exact ⟨F, P, base, c, s, l0, sv, st, h4.1, h2.trans h4.2, h3⟩
theorem CLS.ext0 (h : CLS ad w0 w kb root G L D i) : Ext w0 w := by
  obtain ⟨F, P, base, c, s, l0, sv, st, h1, h2, h3⟩ := h
  exact h2.stp.mods
/-- what lay there when the pager was made reads as it did. -/
theorem CLS.sl (h : CLS ad w0 w kb root G L D i) {α : Type} {sz : Nat} {enc : α → List Value} {v : Value} {x : List α} (hv : Sl NoB w0 sz enc v x) : Sl NoB w sz enc v x := hv.ext h.ext0
theorem OnPos.le {st : StA} (h : OnPos G L D st i) : (onI L.length i = true ∧ ∃ k : Nat, i = (k : Int) ∧ AtPos G L D st k) ∨ (onI L.length i = false ∧ st = []) := by
  rcases h with ⟨h1, h2, h3⟩ | ⟨h1, h2⟩
  · exact .inl ⟨decide_eq_true ⟨h1, h2⟩, i.toNat, by omega, h3⟩
  · exact .inr ⟨decide_eq_false (by omega), h2⟩
theorem tight_of {st : List FrE} (h : OnPos G L D (st.map FrE.pl) i) : TightF st := fun x hx => by
  have := h.small x.pl (List.mem_map_of_mem hx)
  simp only [FrE.pl] at this
  omega
theorem move_off (hD : D ≤ 16) {st : StA} (h : OnPos G L D st i) (b : Int) (hb : b = 1 ∨ b = -1) : ∃ st', moveA G b st = .inl st' ∧ OnPos G L D st' (stepI L.length i b) := by
  unfold stepI
  rcases h.le with ⟨h1, k, rfl, h2⟩ | ⟨h1, rfl⟩
  · rw [if_pos h1]
    rcases hb with rfl | rfl
    · exact next_pos hD h2
    · exact prev_pos hD h2
  · rw [if_neg (by rw [h1]; simp)]
    exact ⟨[], rfl, .inr ⟨.inl (by omega), rfl⟩⟩
theorem seek_cl (h : CLS ad w0 w kb root G L D i) (ht : G.total) (hT : TreeE G root D L) (key : ByteArray) (hb : boundB key = true) : Calls Tryz.prog 26 #[.pointer (some ⟨kb, 0, none⟩), .string key] w fun e w' => e = .returned .nilIface ∧ CLS ad w0 w' kb root G L D (seekP key L : Int) := by
  obtain ⟨F, P, base, c, s, l0, sv, st, h1, h2, h3⟩ := h
  obtain ⟨st', e1, e2⟩ := seek_pos key hT
  refine (seekB_any key h1 ht).mono ?_
  rintro e w' ⟨P1, F1, sv1, st1, k1, k2, k3⟩
  have e3 : seekB G (root : Int) key = .inl st' := by unfold seekB; rw [if_pos hb, e1]
  rw [e3] at k3
  exact ⟨k3.1, F1, P1, base, c, s, l0, sv1, st1, k1, h2.trans k2, by rw [k3.2]; exact e2⟩
theorem on_cl (h : CLS ad w0 w kb root G L D i) : Calls Tryz.prog 28 #[.pointer (some ⟨kb, 0, none⟩)] w fun e w' => e = .returned (.bool (onI L.length i)) ∧ w = w' := by
  obtain ⟨F, P, base, c, s, l0, sv, st, h1, h2, h3⟩ := h
  have : (!st.isEmpty) = onI L.length i := by
    rcases h3.le with ⟨h4, k, rfl, n, a, r, pre, p, suf, lo, hi, e, _⟩ | ⟨h4, h5⟩
    · rw [h4]
      cases st with
      | nil => simp at e
      | cons x r => rfl
    · rw [h4]
      rw [List.map_eq_nil_iff] at h5
      rw [h5]; rfl
  rw [← this]
  exact on_any h1
theorem on_clq (h : CLS ad w0 w kb root G L D i) (hi : onI L.length i = true) (q : Nat) : Calls Tryz.prog 28 #[.pointer (some ⟨kb, 0, none⟩)] (w.drewN q) fun e w' => e = .returned (.bool true) ∧ ∃ k, w' = w.drewN k := by
  have := on_cl (h.ext ((Mods.refl _ w).drewN q))
  rw [hi] at this
  exact this.mono (fun e w' ⟨h1, h2⟩ => ⟨h1, q, h2.symm⟩)
theorem key_cl (h : CLS ad w0 w kb root G L D i) {k : Nat} {x : PairS} (hi : i = (k : Int)) (hx : L[k]? = some x) : Calls Tryz.prog 39 #[.pointer (some ⟨kb, 0, none⟩)] w fun e w' => e = .returned (.string x.1) ∧ ∃ q, w' = w.drewN q := by
  obtain ⟨F, P, base, c, s, l0, sv, st, h1, h2, h3⟩ := h
  subst hi
  have hk := (List.getElem?_eq_some_iff.1 hx).1
  rcases h3 with ⟨_, _, h4⟩ | ⟨h4, _⟩
  · rw [Int.toNat_natCast] at h4
    obtain ⟨n, a, r, e, y, e1, e2, e3, e4, e5, e6, e7, e8⟩ := h4.pair
    rw [hx] at e3
    injection e3 with e3
    subst e3
    cases st with
    | nil => simp at e1
    | cons z st =>
      rw [List.map_cons] at e1
      injection e1 with e1 _
      have ha := congrArg Prod.snd e1
      have hn := congrArg Prod.fst e1
      rw [← e4]
      exact key_on h1 ha (by rw [show z.node = n from hn]; exact e2)
  · omega
end
end Go.Proofs.YtepafbokbfcbgaaGreatDoor
