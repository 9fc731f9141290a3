/- cursor: fail, First, Last, Next, Prev, Seek, On. | cursor: Seek, On, Key, Value. | cursor: Value on; New; open. | ref12: Bound, Seek, On, Step. | A law's state with a cursor; the cursor's methods on a tree of pairs. -/
import Derived.Test.YtepafbokbfcbgaaGreatDoorK49
import Derived.Test.YtepafbokbfcbgaaGreatDoorK06
import Derived.Test.YtepafbokbfcbgaaGreatDoorK31
import Derived.Deep.RegionHeld3
import Derived.Test.YtepafbokbfcbgaaGreatDoorK47
import Derived.Test.YtepafbokbfcbgaaGreatDoorK28
import Derived.Test.YtepafbokbfcbgaaGreatDoorK34
import Derived.Test.YtepafbokbfcbgaaGreatDoorK32
import Derived.Test.YtepafbokbfcbgaaGreatDoorK22
namespace Go.Proofs.YtepafbokbfcbgaaGreatDoor
open Go.RowKit
attribute [local go_sem ↓] Go.wp_at_zero Go.wp_at_succ
section
variable {F P P' F' P1 F1 : Nat → Prop} {ad : Nat → Addr} {w w' w0 w1 : World} {base c s gen kb : Nat} {root : Int} {G G' : GA} {l l' : List Nat} {sv sv' : Value} {st st' : List FrE} {x : FrE}
/-- behind a cursor's call. -/
def CuF (F P : Nat → Prop) (ad : Nat → Addr) (w : World) (base c s gen kb : Nat) (root : Int) (G : GA) (l : List Nat) (sv : Value) (r : StA ⊕ Err) (e : Ending) (w' : World) : Prop :=
  ∃ (P' F' : Nat → Prop) (sv' : Value) (st' : List FrE), CuI F' P' ad w' base c s gen kb root G l sv' st' ∧ Nxt (cuQ P kb sv) (cuQ P' kb sv') F F' ad w w' ∧
    match r with
    | .inl sa => e = .returned .nilIface ∧ st'.map FrE.pl = sa
    | .inr (el, ek) => st' = [] ∧ ∃ f, e = .returned (faultV f) ∧ ErrC F' ad w' (faultV f) (-1 :: el) ek
set_option maxRecDepth 100000 in
theorem fail_nil (op : ByteArray) (w : World) : Calls Tryz.prog 63 #[.pointer (some ⟨kb, 0, none⟩), .string op, .nilIface] w fun e w' => e = .returned .nilIface ∧ w = w' := by
  go_enter Tryz.func63, Tryz.ntmps63
  go_wp2_with fail
  refine (wrap_nil op w).mono ?_
  rintro e w1 ⟨rfl, rfl⟩
  go_wp2_with fail
  go_ret
  exact ⟨rfl, rfl⟩
set_option maxRecDepth 100000 in
theorem fail_err (op : ByteArray) (h : CuI F P ad w base c s gen kb root G l sv st) {f : Nat} {el : List Int} {ek : Nat} (hE : ErrC F ad w (faultV f) el ek) :
    Calls Tryz.prog 63 #[.pointer (some ⟨kb, 0, none⟩), .string op, faultV f] w fun e w' => ∃ f', CuI F P ad w' base c s gen kb root G l (.slice none 0 0) [] ∧ Nxt (cuQ P kb sv) (cuQ P kb (.slice none 0 0)) F F ad w w' ∧ e = .returned (faultV f') ∧ ErrC F ad w' (faultV f') (-1 :: el) ek := by
  have H := Lib.hid h
  obtain ⟨pa, pc, rfl, -, -⟩ := _root_.id h.cu.row.form
  have k4 := h.cu.blk.cell (o := 4) (v := .slice pa st.reverse.length pc) rfl
  have kf := h.cu.blk.frozen
  have H1 := Lib.hid h.nul
  have hE1 := hE.mods (Mods.setCell (F := F) (p := ⟨kb, 4, none⟩) (Mods.refl _ w) (.inr (h.cu.nP kb (.inl rfl)).1) (.slice none 0 0))
  have HW := Lib.hid (wrap_any H1.out.1.env op _ _ _ hE1)
  clear h hE hE1
  go_enter Tryz.func63, Tryz.ntmps63
  go_wp2_with fail
  refine (HW.out).mono ?_
  rintro e w2 ⟨f2, rfl, hE2, hm2⟩
  have HE2 := Lib.hid hE2
  have H2 := Lib.hid (H1.out.1.ext hm2)
  clear hE2 hm2
  go_wp2_with fail
  go_ret
  exact ⟨f2, H2.out.1, H1.out.2.trans H2.out.2, rfl, HE2.out⟩
set_option maxRecDepth 100000 in
set_option maxHeartbeats 1000000 in
theorem last_any (h : CuI F P ad w base c s gen kb root G l sv st) (ht : G.total) :
    Calls Tryz.prog 33 #[.pointer (some ⟨kb, 0, none⟩)] w (CuF F P ad w base c s gen kb root G l sv (edgeA G root true)) := by
  have HC := Lib.hid (edge_any true h ht)
  clear h ht
  go_enter Tryz.func33, Tryz.ntmps33
  go_wp2_with fail
  refine (HC.out).mono ?_
  rintro e w1 hd
  cases hr : edgeA G root true with
  | inl sa =>
    rw [hr] at hd
    obtain ⟨P1, F1, sv1, st1, h1, n1, rfl, hsa⟩ := hd
    have H1 := Lib.hid h1
    have N1 := Lib.hid n1
    have HS := Lib.hid hsa
    have HR := Lib.hid hr
    clear h1 n1 hsa hr
    go_wp2_with fail
    refine (fail_nil _ _).mono ?_
    rintro e w2 ⟨rfl, rfl⟩
    go_wp2_with fail
    go_ret
    refine ⟨P1, F1, sv1, st1, H1.out, N1.out, ?_⟩
    rw [HR.out]
    exact ⟨rfl, HS.out⟩
  | inr er =>
    obtain ⟨el, ek⟩ := er
    rw [hr] at hd
    obtain ⟨P1, F1, sv1, st1, h1, n1, f, rfl, hE⟩ := hd
    have HF := Lib.hid (fun op => fail_err op h1 hE)
    have N1 := Lib.hid n1
    have HR := Lib.hid hr
    clear h1 n1 hE hr
    go_wp2_with fail
    refine (HF.out _).mono ?_
    rintro e w2 ⟨f2, h2, n2, rfl, hE2⟩
    have H2 := Lib.hid h2
    have N2 := Lib.hid (N1.out.trans n2)
    have HE2 := Lib.hid hE2
    clear h2 n2 hE2
    go_wp2_with fail
    go_ret
    refine ⟨P1, F1, _, [], H2.out, N2.out, ?_⟩
    rw [HR.out]
    exact ⟨rfl, f2, rfl, HE2.out⟩
set_option maxRecDepth 100000 in
set_option maxHeartbeats 1000000 in
theorem next_any (h : CuI F P ad w base c s gen kb root G l sv st) (hti : TightF st) (ht : G.total) :
    Calls Tryz.prog 27 #[.pointer (some ⟨kb, 0, none⟩)] w (CuF F P ad w base c s gen kb root G l sv (moveA G 1 (st.map FrE.pl))) := by
  have HC := Lib.hid (move_any 1 (by omega) (by omega) h hti ht)
  clear h ht hti
  go_enter Tryz.func27, Tryz.ntmps27
  go_wp2_with fail
  refine (HC.out).mono ?_
  rintro e w1 hd
  cases hr : moveA G 1 (st.map FrE.pl) with
  | inl sa =>
    rw [hr] at hd
    obtain ⟨P1, F1, sv1, st1, h1, n1, rfl, hsa⟩ := hd
    have H1 := Lib.hid h1
    have N1 := Lib.hid n1
    have HS := Lib.hid hsa
    have HR := Lib.hid hr
    clear h1 n1 hsa hr
    go_wp2_with fail
    refine (fail_nil _ _).mono ?_
    rintro e w2 ⟨rfl, rfl⟩
    go_wp2_with fail
    go_ret
    refine ⟨P1, F1, sv1, st1, H1.out, N1.out, ?_⟩
    rw [HR.out]
    exact ⟨rfl, HS.out⟩
  | inr er =>
    obtain ⟨el, ek⟩ := er
    rw [hr] at hd
    obtain ⟨P1, F1, sv1, st1, h1, n1, f, rfl, hE⟩ := hd
    have HF := Lib.hid (fun op => fail_err op h1 hE)
    have N1 := Lib.hid n1
    have HR := Lib.hid hr
    clear h1 n1 hE hr
    go_wp2_with fail
    refine (HF.out _).mono ?_
    rintro e w2 ⟨f2, h2, n2, rfl, hE2⟩
    have H2 := Lib.hid h2
    have N2 := Lib.hid (N1.out.trans n2)
    have HE2 := Lib.hid hE2
    clear h2 n2 hE2
    go_wp2_with fail
    go_ret
    refine ⟨P1, F1, _, [], H2.out, N2.out, ?_⟩
    rw [HR.out]
    exact ⟨rfl, f2, rfl, HE2.out⟩
set_option maxRecDepth 100000 in
set_option maxHeartbeats 1000000 in
theorem prev_any (h : CuI F P ad w base c s gen kb root G l sv st) (hti : TightF st) (ht : G.total) :
    Calls Tryz.prog 29 #[.pointer (some ⟨kb, 0, none⟩)] w (CuF F P ad w base c s gen kb root G l sv (moveA G (-1) (st.map FrE.pl))) := by
  have HC := Lib.hid (move_any (-1) (by omega) (by omega) h hti ht)
  clear h ht hti
  go_enter Tryz.func29, Tryz.ntmps29
  go_wp2_with fail
  refine (HC.out).mono ?_
  rintro e w1 hd
  cases hr : moveA G (-1) (st.map FrE.pl) with
  | inl sa =>
    rw [hr] at hd
    obtain ⟨P1, F1, sv1, st1, h1, n1, rfl, hsa⟩ := hd
    have H1 := Lib.hid h1
    have N1 := Lib.hid n1
    have HS := Lib.hid hsa
    have HR := Lib.hid hr
    clear h1 n1 hsa hr
    go_wp2_with fail
    refine (fail_nil _ _).mono ?_
    rintro e w2 ⟨rfl, rfl⟩
    go_wp2_with fail
    go_ret
    refine ⟨P1, F1, sv1, st1, H1.out, N1.out, ?_⟩
    rw [HR.out]
    exact ⟨rfl, HS.out⟩
  | inr er =>
    obtain ⟨el, ek⟩ := er
    rw [hr] at hd
    obtain ⟨P1, F1, sv1, st1, h1, n1, f, rfl, hE⟩ := hd
    have HF := Lib.hid (fun op => fail_err op h1 hE)
    have N1 := Lib.hid n1
    have HR := Lib.hid hr
    clear h1 n1 hE hr
    go_wp2_with fail
    refine (HF.out _).mono ?_
    rintro e w2 ⟨f2, h2, n2, rfl, hE2⟩
    have H2 := Lib.hid h2
    have N2 := Lib.hid (N1.out.trans n2)
    have HE2 := Lib.hid hE2
    clear h2 n2 hE2
    go_wp2_with fail
    go_ret
    refine ⟨P1, F1, _, [], H2.out, N2.out, ?_⟩
    rw [HR.out]
    exact ⟨rfl, f2, rfl, HE2.out⟩
def boundB (s : ByteArray) : Bool := decide (s = ⟨#[]⟩) || keyB s
set_option maxRecDepth 100000 in
theorem bound_any (s : ByteArray) (w : World) : Calls Tryz.prog 62 #[.string s] w fun e w' => e = .returned (.bool (boundB s)) ∧ w = w' := by
  have HK := Lib.hid (key_any s w)
  by_cases h : s = ⟨#[]⟩
  · subst h
    have HB : Hid (boundB ⟨#[]⟩ = true) := Lib.hid rfl
    go_enter Tryz.func62, Tryz.ntmps62
    go_wp2_with fail
    go_ret
    rw [HB.out]
    exact ⟨rfl, rfl⟩
  · have HB : Hid (boundB s = keyB s) := Lib.hid (by unfold boundB; rw [decide_eq_false h]; rfl)
    have h1 : s.toList ≠ [] := fun e => h (toList_inj (by rw [e]; simp [ByteArray.toList_eq]))
    have h2 : s.toList.isEmpty = false := by
      cases hs : s.toList with
      | nil => exact absurd hs h1
      | cons _ _ => rfl
    have h3 : (s.toList == []) = false := beq_eq_false_iff_ne.2 h1
    clear h
    go_enter Tryz.func62, Tryz.ntmps62
    go_wp2_with fail
    refine (HK.out).mono ?_
    rintro e w1 ⟨rfl, rfl⟩
    go_wp2_with fail
    go_ret
    rw [HB.out]
    exact ⟨rfl, rfl⟩
end
end Go.Proofs.YtepafbokbfcbgaaGreatDoor
namespace Go.Proofs.YtepafbokbfcbgaaGreatDoor
open Go.RowKit
attribute [local go_sem ↓] Go.wp_at_zero Go.wp_at_succ
/-- Seek, of any text. -/
def seekB (G : GA) (root : Int) (key : ByteArray) : StA ⊕ Err := if boundB key = true then seekA G root key else .inr ([-1], 2)
section
variable {F P P' F' P1 F1 : Nat → Prop} {ad : Nat → Addr} {w w' w0 w1 : World} {base c s gen kb : Nat} {root : Int} {G G' : GA} {l l' : List Nat} {sv sv' : Value} {st st' : List FrE} {x : FrE}
set_option maxRecDepth 100000 in
set_option maxHeartbeats 1000000 in
theorem seekB_any (key : ByteArray) (h : CuI F P ad w base c s gen kb root G l sv st) (ht : G.total) :
    Calls Tryz.prog 26 #[.pointer (some ⟨kb, 0, none⟩), .string key] w (CuF F P ad w base c s gen kb root G l sv (seekB G root key)) := by
  have HB := Lib.hid (bound_any key w)
  cases hb : boundB key with
  | true =>
    have HC := Lib.hid (seek_any key h ht)
    have HV : Hid (seekB G root key = seekA G root key) := Lib.hid (by unfold seekB; rw [if_pos hb])
    rw [hb] at HB
    clear h ht hb
    go_enter Tryz.func26, Tryz.ntmps26
    go_wp2_with fail
    refine (HB.out).mono ?_
    rintro e w1 ⟨rfl, rfl⟩
    go_wp2_with fail
    refine (HC.out).mono ?_
    rintro e w1 hd
    cases hr : seekA G root key with
    | inl sa =>
      rw [hr] at hd
      obtain ⟨P1, F1, sv1, st1, h1, n1, rfl, hsa⟩ := hd
      have H1 := Lib.hid h1
      have N1 := Lib.hid n1
      have HS := Lib.hid hsa
      have HR := Lib.hid hr
      clear h1 n1 hsa hr
      go_wp2_with fail
      refine (fail_nil _ _).mono ?_
      rintro e w2 ⟨rfl, rfl⟩
      go_wp2_with fail
      go_ret
      refine ⟨P1, F1, sv1, st1, H1.out, N1.out, ?_⟩
      rw [HV.out, HR.out]
      exact ⟨rfl, HS.out⟩
    | inr er =>
      obtain ⟨el, ek⟩ := er
      rw [hr] at hd
      obtain ⟨P1, F1, sv1, st1, h1, n1, f, rfl, hE⟩ := hd
      have HF := Lib.hid (fun op => fail_err op h1 hE)
      have N1 := Lib.hid n1
      have HR := Lib.hid hr
      clear h1 n1 hE hr
      go_wp2_with fail
      refine (HF.out _).mono ?_
      rintro e w2 ⟨f2, h2, n2, rfl, hE2⟩
      have H2 := Lib.hid h2
      have N2 := Lib.hid (N1.out.trans n2)
      have HE2 := Lib.hid hE2
      clear h2 n2 hE2
      go_wp2_with fail
      go_ret
      refine ⟨P1, F1, _, [], H2.out, N2.out, ?_⟩
      rw [HV.out, HR.out]
      exact ⟨rfl, f2, rfl, HE2.out⟩
  | false =>
    have HV : Hid (seekB G root key = .inr ([-1], 2)) := Lib.hid (by unfold seekB; rw [if_neg (by rw [hb]; simp)])
    have c2 := h.env.c2
    have H := Lib.hid h
    rw [hb] at HB
    clear h ht hb
    go_enter Tryz.func26, Tryz.ntmps26
    go_wp2_with fail
    refine (HB.out).mono ?_
    rintro e w1 ⟨rfl, rfl⟩
    go_wp2_with fail
    refine (new_any H.out.env _ _ [] 2 (.sent 2 (by decide) (by decide))).mono ?_
    rintro e w1 ⟨f, rfl, hE, hm⟩
    have H1 := Lib.hid (H.out.ext hm)
    have HF := Lib.hid (fun op => fail_err op H1.out.1 hE)
    clear hE hm c2
    go_wp2_with fail
    refine (HF.out _).mono ?_
    rintro e w2 ⟨f2, h2, n2, rfl, hE2⟩
    have H2 := Lib.hid h2
    have N2 := Lib.hid (H1.out.2.trans n2)
    have HE2 := Lib.hid hE2
    clear h2 n2 hE2
    go_wp2_with fail
    go_ret
    refine ⟨P, F, _, [], H2.out, N2.out, ?_⟩
    rw [HV.out]
    exact ⟨rfl, f2, rfl, HE2.out⟩
set_option maxRecDepth 100000 in
theorem on_any (h : CuI F P ad w base c s gen kb root G l sv st) :
    Calls Tryz.prog 28 #[.pointer (some ⟨kb, 0, none⟩)] w fun e w' => e = .returned (.bool (!st.isEmpty)) ∧ w = w' := by
  obtain ⟨pa, pc, rfl, -, -⟩ := _root_.id h.cu.row.form
  have hrl : st.reverse.length = st.length := List.length_reverse
  rw [hrl] at h
  have k4 := h.cu.blk.cell (o := 4) (v := .slice pa st.length pc) rfl
  clear h hrl
  cases st with
  | nil =>
    simp only [List.length_nil] at k4
    go_enter Tryz.func28, Tryz.ntmps28
    go_wp2_with fail
    go_ret
    exact ⟨rfl, rfl⟩
  | cons x r =>
    simp only [List.length_cons] at k4
    go_enter Tryz.func28, Tryz.ntmps28
    go_wp2_with fail
    go_ret
    exact ⟨rfl, rfl⟩
set_option maxRecDepth 100000 in
theorem on_none (w : World) : Calls Tryz.prog 28 #[.pointer none] w fun e w' => e = .returned (.bool false) ∧ w = w' := by
  go_enter Tryz.func28, Tryz.ntmps28
  go_wp2_with fail
  go_ret
  exact ⟨rfl, rfl⟩
set_option maxRecDepth 100000 in
set_option maxHeartbeats 1000000 in
theorem key_on {r : List FrE} {a : Nat} {e : EntryA} (h : CuI F P ad w base c s gen kb root G l sv (x :: r)) (ha : x.at_ = (a : Int)) (he : x.node.entries[a]? = some e) :
    Calls Tryz.prog 39 #[.pointer (some ⟨kb, 0, none⟩)] w fun en w' => en = .returned (.string e.key) ∧ ∃ q, w' = w.drewN q := by
  have HO := Lib.hid (on_any h)
  simp only [List.isEmpty_cons, Bool.not_false] at HO
  obtain ⟨g, cp, rfl, b1, b2, b3, -, c1, -, -, c4⟩ := h.form
  have hr : r.length ≤ 15 := by have := h.cu.few; simp at this; omega
  have HTQ := Lib.hid (top_q h.cu.blk rfl (by omega))
  obtain ⟨hal, hae⟩ := List.getElem?_eq_some_iff.1 he
  obtain ⟨eb, eoff, hea, hec⟩ := (h.cu.fr x List.mem_cons_self).es.elem hal (Mods.refl _ _)
  have d0 := hec 0 (.string e.key) (by rw [hae]; rfl)
  simp only [Nat.add_zero] at d0
  rw [hea] at c1
  rw [ha] at c4
  have i1 : (0 : Int) ≤ (a : Int) := by omega
  have i2 : (a : Int) < (x.node.entries.length : Int) := by omega
  clear h hec hea ha hae he b3
  go_enter Tryz.func39, Tryz.ntmps39
  go_wp2_with fail
  refine (HO.out).mono ?_
  rintro e w1 ⟨rfl, rfl⟩
  go_wp2_with fail
  go_quiet ((go_at_call 70; exact HTQ.out _))
  go_wp2_with fail
  go_ret
  exact ⟨rfl, _, rfl⟩
end
end Go.Proofs.YtepafbokbfcbgaaGreatDoor
namespace Go.Proofs.YtepafbokbfcbgaaGreatDoor
open Go.RowKit
attribute [local go_sem ↓] Go.wp_at_zero Go.wp_at_succ
section
variable {F P P' F' P1 F1 : Nat → Prop} {ad : Nat → Addr} {w w' w0 w1 : World} {base c s gen kb : Nat} {root : Int} {G G' : GA} {l l' : List Nat} {sv sv' : Value} {st st' : List FrE} {x : FrE}
theorem Nxt.shrink {Q P2 : Nat → Prop} (n : Nxt P Q F F' ad w w') (h : ∀ k, P2 k → Q k) : Nxt P P2 F F' ad w w' :=
  ⟨⟨n.stp.mods, fun k hk hp => n.stp.old k hk (h k hp), fun k hp => n.stp.bd k (h k hp)⟩, fun k hp => n.sub k (h k hp), n.grow, n.oldF, n.env⟩
/-- a new cursor. -/
theorem CuI.start (hL : Env F ad w) (hP : ∀ k, P k → F k) (h : PgR F w P c s G l) (gen : Nat) (root : Int) :
    CuI (fun k => F k ∨ k = w.heap.size) P ad (w.alloc (.cells #[.pointer (some ⟨c, 0, none⟩), .pointer (some ⟨s, 0, none⟩), .int .u64 (gen : Int), .int .i64 root, .slice none 0 0] 125)) w.heap.size c s gen w.heap.size root G l (.slice none 0 0) [] ∧
    Nxt P (cuQ P w.heap.size (.slice none 0 0)) F (fun k => F k ∨ k = w.heap.size) ad w (w.alloc (.cells #[.pointer (some ⟨c, 0, none⟩), .pointer (some ⟨s, 0, none⟩), .int .u64 (gen : Int), .int .i64 root, .slice none 0 0] 125)) := by
  have m : Ext w (w.alloc (.cells #[.pointer (some ⟨c, 0, none⟩), .pointer (some ⟨s, 0, none⟩), .int .u64 (gen : Int), .int .i64 root, .slice none 0 0] 125)) := (Mods.refl _ w).alloc _
  have hb := Blk.new w #[.pointer (some ⟨c, 0, none⟩), .pointer (some ⟨s, 0, none⟩), .int .u64 (gen : Int), .int .i64 root, .slice none 0 0] 125
  have hnew : ∀ k, k < w.heap.size → ¬ F k → ¬ (F k ∨ k = w.heap.size) := fun k hk hn hf => by rcases hf with hf | hf; exact hn hf; omega
  have hE : Env (fun k => F k ∨ k = w.heap.size) ad (w.alloc (.cells #[.pointer (some ⟨c, 0, none⟩), .pointer (some ⟨s, 0, none⟩), .int .u64 (gen : Int), .int .i64 root, .slice none 0 0] 125)) :=
    hL.step m.ext hnew (fun k hk => by rcases hk with hk | hk; exact Nat.lt_of_lt_of_le (hL.lt k hk) m.size; exact hk ▸ hb.lt)
  have hB : ∀ k, CuB w.heap.size (.slice none 0 0) k → k = w.heap.size := fun k hk => by
    rcases hk with hk | hk
    · exact hk
    · simp [Value.ownBlock] at hk
  have hI : CuI (fun k => F k ∨ k = w.heap.size) P ad (w.alloc (.cells #[.pointer (some ⟨c, 0, none⟩), .pointer (some ⟨s, 0, none⟩), .int .u64 (gen : Int), .int .i64 root, .slice none 0 0] 125)) w.heap.size c s gen w.heap.size root G l (.slice none 0 0) [] :=
    ⟨hE, fun k hk => .inl (hP k hk), h.plus m (fun _ _ f => f) (fun k f => f.elim) hnew, ⟨hb, Own.nil _ _ _ _ _ _, fun x hx => by simp at hx, fun k hk => ⟨.inr (hB k hk), fun hp => by have := hL.lt k (hP k hp); have := hB k hk; omega⟩, ⟨fun x hx => by simp at hx, by simp⟩⟩, m.size⟩
  refine ⟨hI, ⟨⟨m.ext, ?_, hI.bd⟩, hI.subQ, fun k hk => .inl hk, fun k hk hf => by rcases hf with hf | hf; exact hf; omega, hE⟩⟩
  rintro k hk (hp | hp)
  · exact hp
  · have := hB k hp; omega
end
end Go.Proofs.YtepafbokbfcbgaaGreatDoor
namespace Go.Proofs.YtepafbokbfcbgaaGreatDoor
open Go.RowKit
attribute [local go_sem ↓] Go.wp_at_zero Go.wp_at_succ
section
variable {F : Nat → Prop} {w w' : World}
theorem bound12_any (s : ByteArray) (w : World) : Calls Tryz.prog 20 #[.string s] w fun e w' => e = .returned (.bool (boundB s)) ∧ w = w' := by
  have HK := Lib.hid (key07_any s w)
  by_cases h : s = ⟨#[]⟩
  · subst h
    have HB : Hid (boundB ⟨#[]⟩ = true) := Lib.hid rfl
    go_enter Tryz.func20, Tryz.ntmps20
    go_wp2_with fail
    go_ret
    rw [HB.out]
    exact ⟨rfl, rfl⟩
  · have HB : Hid (boundB s = keyB s) := Lib.hid (by unfold boundB; rw [decide_eq_false h]; rfl)
    have h1 : s.toList ≠ [] := fun e => h (toList_inj (by rw [e]; simp [ByteArray.toList_eq]))
    have h2 : s.toList.isEmpty = false := by
      cases hs : s.toList with
      | nil => exact absurd hs h1
      | cons _ _ => rfl
    have h3 : (s.toList == []) = false := beq_eq_false_iff_ne.2 h1
    clear h
    go_enter Tryz.func20, Tryz.ntmps20
    go_wp2_with fail
    refine (HK.out).mono ?_
    rintro e w1 ⟨rfl, rfl⟩
    go_wp2_with fail
    go_ret
    rw [HB.out]
    exact ⟨rfl, rfl⟩
set_option maxRecDepth 100000 in
set_option maxHeartbeats 1000000 in
theorem seek12_any (l : List PairS) (lv : Value) (hl : Sl F w 2 encP lv l) (_hlen : l.length ≤ 1000) (key : ByteArray) :
    Calls Tryz.prog 25 #[lv, .string key] w fun e w' => e = .returned (.int .i64 (seekP key l : Int)) ∧ w = w' := by
  have HL := Lib.hid hl
  obtain ⟨la, lc, rfl, h1, h2, h3, hll⟩ := hl
  unfold maxLen at h2
  clear hll
  obtain ⟨N, hN⟩ : ∃ N, N = seekP key l := ⟨_, rfl⟩
  have hNl : N ≤ l.length := by rw [hN]; exact List.findIdx_le_length
  have HN := Lib.hid hN
  rw [← hN]
  clear hN
  go_enter Tryz.func25, Tryz.ntmps25
  go_wp2_with fail
  go_loopg [5] N (fun m v5 wr => ∃ (k : Nat), k + m = N ∧ v5 = .int .i64 (k : Int) ∧ wr = w)
  case atStart => exact ⟨0, by omega, rfl, rfl⟩
  case round =>
    obtain ⟨k, hkm, rfl, rfl⟩ := hrel
    by_cases hk : k < N
    · have hkl : k < l.length := by omega
      obtain ⟨b, off, e, hc⟩ := HL.out.elem hkl (Mods.refl _ _)
      subst e
      have c0 := hc 0 (.string l[k].1) rfl
      simp only [Nat.add_zero] at c0
      have hlt : ltS l[k].1 key = true := by
        have := List.not_of_lt_findIdx (p := fun x : PairS => !ltS x.1 key) (xs := l) (i := k) (by have := HN.out; unfold seekP at this; omega)
        simpa using this
      have hlt' : Op.bytesLess l[k].1.toList key.toList = true := hlt
      have i1 : (0 : Int) ≤ (k : Int) := by omega
      have i2 : (k : Int) < (l.length : Int) := by omega
      clear hc
      go_wp2_with fail
      go_roundg (gk - 1)
      case measure => omega
      case rel => exact ⟨k + 1, by omega, by go_num, rfl⟩
    · have hkN : k = N := by omega
      subst hkN
      by_cases hkl : k < l.length
      · obtain ⟨b, off, e, hc⟩ := HL.out.elem hkl (Mods.refl _ _)
        subst e
        have c0 := hc 0 (.string l[k].1) rfl
        simp only [Nat.add_zero] at c0
        have hlt : ltS l[k].1 key = false := by
          have := findIdx_at (f := fun x : PairS => !ltS x.1 key) (l := l) (a := l[k]) (by
            have h9 : l.findIdx (fun x : PairS => !ltS x.1 key) = k := HN.out.symm
            rw [h9]
            exact List.getElem?_eq_getElem hkl)
          simpa using this
        have hlt' : Op.bytesLess l[k].1.toList key.toList = false := hlt
        have i1 : (0 : Int) ≤ (k : Int) := by omega
        have i2 : (k : Int) < (l.length : Int) := by omega
        clear hc
        go_wp2_with fail
        go_ret
        exact ⟨rfl, rfl⟩
      · have i2 : ¬ (k : Int) < (l.length : Int) := by omega
        go_wp2_with fail
        go_ret
        exact ⟨rfl, rfl⟩
/-- is a place one of a key? -/
def onI (n : Nat) (i : Int) : Bool := decide (0 ≤ i ∧ i < (n : Int))
theorem on12_any {la : Option Addr} {n lc : Nat} (i : Int) (w : World) :
    Calls Tryz.prog 66 #[.slice la n lc, .int .i64 i] w fun e w' => e = .returned (.bool (onI n i)) ∧ w = w' := by
  by_cases h1 : 0 ≤ i
  · by_cases h2 : i < (n : Int)
    · have HD : Hid (onI n i = true) := Lib.hid (decide_eq_true ⟨h1, h2⟩)
      have h1' := Lib.hid h1
      have h3 : (decide (i ≥ 0)) = true := decide_eq_true h1
      have h4 : (decide (i < (n : Int))) = true := decide_eq_true h2
      clear h1 h2
      go_enter Tryz.func66, Tryz.ntmps66
      go_wp2_with fail
      go_ret
      rw [HD.out]
      exact ⟨rfl, rfl⟩
    · have HD : Hid (onI n i = false) := Lib.hid (decide_eq_false (fun h => h2 h.2))
      have h3 : (decide (i ≥ 0)) = true := decide_eq_true h1
      have h4 : (decide (i < (n : Int))) = false := decide_eq_false h2
      clear h1 h2
      go_enter Tryz.func66, Tryz.ntmps66
      go_wp2_with fail
      go_ret
      rw [HD.out]
      exact ⟨rfl, rfl⟩
  · have HD : Hid (onI n i = false) := Lib.hid (decide_eq_false (fun h => h1 h.1))
    have h3 : (decide (i ≥ 0)) = false := decide_eq_false h1
    clear h1
    go_enter Tryz.func66, Tryz.ntmps66
    go_wp2_with fail
    go_ret
    rw [HD.out]
    exact ⟨rfl, rfl⟩
/-- the place a step on. -/
def stepI (n : Nat) (i by_ : Int) : Int := if onI n i = true then i + by_ else -1
theorem step12_any {la : Option Addr} {n lc : Nat} (hn : n ≤ 100000) (i by_ : Int) (hb : -1 ≤ by_ ∧ by_ ≤ 1) (w : World) :
    Calls Tryz.prog 67 #[.slice la n lc, .int .i64 i, .int .i64 by_] w fun e w' => e = .returned (.int .i64 (stepI n i by_)) ∧ w = w' := by
  have HO := Lib.hid (on12_any (la := la) (n := n) (lc := lc) i w)
  cases ho : onI n i with
  | false =>
    have HD : Hid (stepI n i by_ = -1) := Lib.hid (by unfold stepI; rw [ho]; rfl)
    rw [ho] at HO
    clear ho
    go_enter Tryz.func67, Tryz.ntmps67
    go_wp2_with fail
    refine (HO.out).mono ?_
    rintro e w1 ⟨rfl, rfl⟩
    go_wp2_with fail
    go_ret
    rw [HD.out]
    exact ⟨rfl, rfl⟩
  | true =>
    have HD : Hid (stepI n i by_ = i + by_) := Lib.hid (by unfold stepI; rw [ho]; rfl)
    have h1 := of_decide_eq_true ho
    have hw2 : IntKind.i64.wrap (i + by_) = i + by_ := by rw [IntWalk.i64_in _ (by omega)]
    have HW2 := Lib.hid hw2
    rw [ho] at HO
    clear ho h1
    go_enter Tryz.func67, Tryz.ntmps67
    go_wp2_with fail
    refine (HO.out).mono ?_
    rintro e w1 ⟨rfl, rfl⟩
    go_wp2_with fail
    go_ret
    rw [HD.out]
    refine ⟨?_, rfl⟩
    first
      | rfl
      | (rw [HW2.out])
end
end Go.Proofs.YtepafbokbfcbgaaGreatDoor
namespace Go.Proofs.YtepafbokbfcbgaaGreatDoor
open Go.RowKit
attribute [local go_sem ↓] Go.wp_at_zero Go.wp_at_succ
theorem TrI.full {ps : List PageA} {gen id d : Nat} {pgs : List Nat} {G : GA} (h : TrI ps gen id d pgs) (hG : OnG G ps) : TrE G.node id d := by
  induction h with
  | leaf h1 h2 h3 _ => exact .leaf (hG.node h1) h2 h3
  | @inner id n d parts h1 h2 h3 _ _ _ ih =>
    refine .inner (hG.node h1) h2 (fun k hk => ?_)
    obtain ⟨i, hi, e⟩ := List.getElem_of_mem hk
    have hip : i < parts.length := by omega
    exact ih i k parts[i] (by rw [← e]; exact List.getElem?_eq_getElem hi) (List.getElem?_eq_getElem hip)
theorem TreeOn.full {l : List PairS} {e k : Nat} (hT : TreeOn (buildA 5 e k l).1 (buildA 5 e k l).2.1 (buildA 5 e k l).2.2 l) (he : 1 ≤ e) (he2 : e ≤ 3) (hk : 2 ≤ k) (hk2 : k ≤ 4) :
    TreeE (putsG (G0 200) (buildA 5 e k l).1) (buildA 5 e k l).2.1 (buildA 5 e k l).2.2 l := by
  refine ⟨hT.tree, fun hr => ?_⟩
  have h0 : l ≠ [] := by rintro rfl; exact hr rfl
  have hf := hT.few
  have hln := hT.tame.len
  obtain ⟨pgs, h1, _⟩ := build_I 5 e k he (by omega) hk (by omega) hT.tame.sorted hT.tame.ok h0 (by omega) (by omega) (hT.on.fits2 5)
  exact h1.full hT.on
section
variable {ad : Nat → Addr} {w0 w w' : World} {kb root D : Nat} {G : GA} {L : List PairS} {i : Int}
/-- a cursor at a place. -/
def CLS (ad : Nat → Addr) (w0 w : World) (kb root : Nat) (G : GA) (L : List PairS) (D : Nat) (i : Int) : Prop :=
  ∃ (F P : Nat → Prop) (base c s : Nat) (l0 : List Nat) (sv : Value) (st : List FrE), CuI F P ad w base c s 5 kb (root : Int) G l0 sv st ∧ Nxt NoB (cuQ P kb sv) NoB F ad w0 w ∧ OnPos G L D (st.map FrE.pl) i
theorem CLS.ext (h : CLS ad w0 w kb root G L D i) (m : Ext w w') : CLS ad w0 w' kb root G L D i := by
  obtain ⟨F, P, base, c, s, l0, sv, st, h1, h2, h3⟩ := h
  have h4 := h1.ext m
  exact ⟨F, P, base, c, s, l0, sv, st, h4.1, h2.trans h4.2, h3⟩
theorem CLS.ext0 (h : CLS ad w0 w kb root G L D i) : Ext w0 w := by
  obtain ⟨F, P, base, c, s, l0, sv, st, h1, h2, h3⟩ := h
  exact h2.stp.mods
/-- what lay there when the pager was made reads as it did. -/
theorem CLS.sl (h : CLS ad w0 w kb root G L D i) {α : Type} {sz : Nat} {enc : α → List Value} {v : Value} {x : List α} (hv : Sl NoB w0 sz enc v x) : Sl NoB w sz enc v x := hv.ext h.ext0
theorem OnPos.le {st : StA} (h : OnPos G L D st i) : (onI L.length i = true ∧ ∃ k : Nat, i = (k : Int) ∧ AtPos G L D st k) ∨ (onI L.length i = false ∧ st = []) := by
  rcases h with ⟨h1, h2, h3⟩ | ⟨h1, h2⟩
  · exact .inl ⟨decide_eq_true ⟨h1, h2⟩, i.toNat, by omega, h3⟩
  · exact .inr ⟨decide_eq_false (by omega), h2⟩
theorem tight_of {st : List FrE} (h : OnPos G L D (st.map FrE.pl) i) : TightF st := fun x hx => by
  have := h.small x.pl (List.mem_map_of_mem hx)
  simp only [FrE.pl] at this
  omega
theorem move_off (hD : D ≤ 16) {st : StA} (h : OnPos G L D st i) (b : Int) (hb : b = 1 ∨ b = -1) : ∃ st', moveA G b st = .inl st' ∧ OnPos G L D st' (stepI L.length i b) := by
  unfold stepI
  rcases h.le with ⟨h1, k, rfl, h2⟩ | ⟨h1, rfl⟩
  · rw [if_pos h1]
    rcases hb with rfl | rfl
    · exact next_pos hD h2
    · exact prev_pos hD h2
  · rw [if_neg (by rw [h1]; simp)]
    exact ⟨[], rfl, .inr ⟨.inl (by omega), rfl⟩⟩
theorem seek_cl (h : CLS ad w0 w kb root G L D i) (ht : G.total) (hT : TreeE G root D L) (key : ByteArray) (hb : boundB key = true) : Calls Tryz.prog 26 #[.pointer (some ⟨kb, 0, none⟩), .string key] w fun e w' => e = .returned .nilIface ∧ CLS ad w0 w' kb root G L D (seekP key L : Int) := by
  obtain ⟨F, P, base, c, s, l0, sv, st, h1, h2, h3⟩ := h
  obtain ⟨st', e1, e2⟩ := seek_pos key hT
  refine (seekB_any key h1 ht).mono ?_
  rintro e w' ⟨P1, F1, sv1, st1, k1, k2, k3⟩
  have e3 : seekB G (root : Int) key = .inl st' := by unfold seekB; rw [if_pos hb, e1]
  rw [e3] at k3
  exact ⟨k3.1, F1, P1, base, c, s, l0, sv1, st1, k1, h2.trans k2, by rw [k3.2]; exact e2⟩
theorem seek_no (h : CLS ad w0 w kb root G L D i) (ht : G.total) (key : ByteArray) (hb : boundB key = false) : Calls Tryz.prog 26 #[.pointer (some ⟨kb, 0, none⟩), .string key] w fun e w' => ∃ f F, e = .returned (faultV f) ∧ Env F ad w' ∧ ErrC F ad w' (faultV f) [-1, -1] 2 ∧ CLS ad w0 w' kb root G L D (-1) := by
  obtain ⟨F, P, base, c, s, l0, sv, st, h1, h2, h3⟩ := h
  refine (seekB_any key h1 ht).mono ?_
  rintro e w' ⟨P1, F1, sv1, st1, k1, k2, k3⟩
  have e3 : seekB G (root : Int) key = .inr ([-1], 2) := by unfold seekB; rw [if_neg (by rw [hb]; simp)]
  rw [e3] at k3
  obtain ⟨rfl, f, rfl, hE⟩ := k3
  exact ⟨f, F1, rfl, k1.env, hE, F1, P1, base, c, s, l0, sv1, [], k1, h2.trans k2, .inr ⟨.inl (by omega), rfl⟩⟩
theorem on_cl (h : CLS ad w0 w kb root G L D i) : Calls Tryz.prog 28 #[.pointer (some ⟨kb, 0, none⟩)] w fun e w' => e = .returned (.bool (onI L.length i)) ∧ w = w' := by
  obtain ⟨F, P, base, c, s, l0, sv, st, h1, h2, h3⟩ := h
  have : (!st.isEmpty) = onI L.length i := by
    rcases h3.le with ⟨h4, k, rfl, n, a, r, pre, p, suf, lo, hi, e, _⟩ | ⟨h4, h5⟩
    · rw [h4]
      cases st with
      | nil => simp at e
      | cons x r => rfl
    · rw [h4]
      rw [List.map_eq_nil_iff] at h5
      rw [h5]; rfl
  rw [← this]
  exact on_any h1
theorem on_clq (h : CLS ad w0 w kb root G L D i) (hi : onI L.length i = true) (q : Nat) : Calls Tryz.prog 28 #[.pointer (some ⟨kb, 0, none⟩)] (w.drewN q) fun e w' => e = .returned (.bool true) ∧ ∃ k, w' = w.drewN k := by
  have := on_cl (h.ext ((Mods.refl _ w).drewN q))
  rw [hi] at this
  exact this.mono (fun e w' ⟨h1, h2⟩ => ⟨h1, q, h2.symm⟩)
theorem key_cl (h : CLS ad w0 w kb root G L D i) {k : Nat} {x : PairS} (hi : i = (k : Int)) (hx : L[k]? = some x) : Calls Tryz.prog 39 #[.pointer (some ⟨kb, 0, none⟩)] w fun e w' => e = .returned (.string x.1) ∧ ∃ q, w' = w.drewN q := by
  obtain ⟨F, P, base, c, s, l0, sv, st, h1, h2, h3⟩ := h
  subst hi
  have hk := (List.getElem?_eq_some_iff.1 hx).1
  rcases h3 with ⟨_, _, h4⟩ | ⟨h4, _⟩
  · rw [Int.toNat_natCast] at h4
    obtain ⟨n, a, r, e, y, e1, e2, e3, e4, e5, e6, e7, e8⟩ := h4.pair
    rw [hx] at e3
    injection e3 with e3
    subst e3
    cases st with
    | nil => simp at e1
    | cons z st =>
      rw [List.map_cons] at e1
      injection e1 with e1 _
      have ha := congrArg Prod.snd e1
      have hn := congrArg Prod.fst e1
      rw [← e4]
      exact key_on h1 ha (by rw [show z.node = n from hn]; exact e2)
  · omega
end
end Go.Proofs.YtepafbokbfcbgaaGreatDoor
