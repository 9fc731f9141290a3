/- cursor.open. | CursorRefuses, walked. -/
import Derived.Test.YtepafbokbfcbgaaGreatDoorK51
namespace Go.Proofs.YtepafbokbfcbgaaGreatDoor
open Go.RowKit
attribute [local go_sem ↓] Go.wp_at_zero Go.wp_at_succ
section
variable {F P P' F' P1 F1 : Nat → Prop} {ad : Nat → Addr} {w w' w0 w1 : World} {base c s gen kb : Nat} {root : Int} {G G' : GA} {l l' : List Nat} {sv sv' : Value} {st st' : List FrE} {x : FrE}
/-- may a range be asked for? -/
def askB (a b : ByteArray) (most : Int) : Bool := boundB a && boundB b && decide (0 ≤ most) && decide (most ≤ 65535)
def OpenD (F P : Nat → Prop) (ad : Nat → Addr) (w : World) (c s gen : Nat) (root : Int) (G : GA) (l : List Nat) (ok : Bool) (e : Ending) (w' : World) : Prop :=
  (ok = true ∧ NewD F P ad w c s gen root G l e w') ∨ (ok = false ∧ ∃ b F', e = .returned (.tuple #[.pointer none, faultV b]) ∧ PgR F' w' P c s G l ∧ Nxt P P F F' ad w w' ∧ ErrC F' ad w' (faultV b) [-1] 2)
set_option maxRecDepth 100000 in
set_option maxHeartbeats 1000000 in
theorem open_cur (hL : Env F ad w) (hP : ∀ k, P k → F k) (h : PgR F w P c s G l) (gen : Nat) (root : Int) (op from_ to_ : ByteArray) (most : Int) :
    Calls Tryz.prog 58 #[.string op, pgV c s gen, .int .i64 root, .string from_, .string to_, .int .i64 most] w (OpenD F P ad w c s gen root G l (askB from_ to_ most)) := by
  have m0 : Ext w (w.alloc (.cells #[.pointer (some ⟨c, 0, none⟩), .pointer (some ⟨s, 0, none⟩), .int .u64 (gen : Int)] 34)) := (Mods.refl _ w).alloc _
  have HN0 := Lib.hid (Nxt.ext hL hP m0)
  have HNW := Lib.hid (new_cur HN0.out.env hP (h.at m0) gen root)
  have HB1 := Lib.hid (bound_any from_)
  have HB2 := Lib.hid (bound_any to_)
  clear hL hP h m0
  unfold pgV at HNW ⊢
  go_enter Tryz.func58, Tryz.ntmps58
  go_wp2_with fail
  refine (HNW.out).mono ?_
  rintro e w1 ⟨kb, base, F1, rfl, h1, n1⟩
  have H1 := Lib.hid h1
  have N1 := Lib.hid (HN0.out.trans n1)
  have c2 := h1.env.c2
  clear h1 n1
  obtain ⟨q1, hq1⟩ : ∃ q, boundB from_ = q := ⟨_, rfl⟩
  obtain ⟨q2, hq2⟩ : ∃ q, boundB to_ = q := ⟨_, rfl⟩
  obtain ⟨q3, hq3⟩ : ∃ q, decide (most < 0) = q := ⟨_, rfl⟩
  obtain ⟨q4, hq4⟩ : ∃ q, decide (most > 65535) = q := ⟨_, rfl⟩
  rw [hq1] at HB1
  rw [hq2] at HB2
  have HA : Hid (askB from_ to_ most = (q1 && q2 && !q3 && !q4)) := Lib.hid (by
    unfold askB
    rw [hq1, hq2, ← hq3, ← hq4]
    congr 1
    · congr 1
      by_cases h : most < 0
      · rw [decide_eq_true h, decide_eq_false (by omega)]; rfl
      · rw [decide_eq_false h, decide_eq_true (by omega)]; rfl
    · by_cases h : most > 65535
      · rw [decide_eq_true h, decide_eq_false (by omega)]; rfl
      · rw [decide_eq_false h, decide_eq_true (by omega)]; rfl)
  clear hq1 hq2
  cases q1 with
  | false =>
    have HV : Hid (askB from_ to_ most = false) := Lib.hid (by rw [HA.out]; rfl)
    go_wp2_with fail
    refine (HB1.out _).mono ?_
    rintro e w2 ⟨rfl, rfl⟩
    go_wp2_with fail
    refine (new_any H1.out.env _ _ [] 2 (.sent 2 (by decide) (by decide))).mono ?_
    rintro e w2 ⟨b, rfl, hE, hm⟩
    have HE := Lib.hid hE
    have H2 := Lib.hid (H1.out.ext hm)
    clear hE hm
    go_wp2_with fail
    refine bodyPost_ret (v := .tuple #[.pointer none, faultV b]) (by simp [results, Tryz.results58, go_sem]) rfl ?_
    rw [HV.out]
    exact .inr ⟨rfl, b, F1, rfl, H2.out.1.pg, (N1.out.trans H2.out.2).shrink (fun k hk => .inl hk), HE.out⟩
  | true =>
    cases q2 with
    | false =>
      have HV : Hid (askB from_ to_ most = false) := Lib.hid (by rw [HA.out]; rfl)
      go_wp2_with fail
      refine (HB1.out _).mono ?_
      rintro e w2 ⟨rfl, rfl⟩
      go_wp2_with fail
      refine (HB2.out _).mono ?_
      rintro e w2 ⟨rfl, rfl⟩
      go_wp2_with fail
      refine (new_any H1.out.env _ _ [] 2 (.sent 2 (by decide) (by decide))).mono ?_
      rintro e w2 ⟨b, rfl, hE, hm⟩
      have HE := Lib.hid hE
      have H2 := Lib.hid (H1.out.ext hm)
      clear hE hm
      go_wp2_with fail
      refine bodyPost_ret (v := .tuple #[.pointer none, faultV b]) (by simp [results, Tryz.results58, go_sem]) rfl ?_
      rw [HV.out]
      exact .inr ⟨rfl, b, F1, rfl, H2.out.1.pg, (N1.out.trans H2.out.2).shrink (fun k hk => .inl hk), HE.out⟩
    | true =>
      cases q3 with
      | true =>
        have HV : Hid (askB from_ to_ most = false) := Lib.hid (by rw [HA.out]; rfl)
        have h3 := of_decide_eq_true hq3
        clear hq3 hq4
        go_wp2_with fail
        refine (HB1.out _).mono ?_
        rintro e w2 ⟨rfl, rfl⟩
        go_wp2_with fail
        refine (HB2.out _).mono ?_
        rintro e w2 ⟨rfl, rfl⟩
        go_wp2_with fail
        refine (new_any H1.out.env _ _ [] 2 (.sent 2 (by decide) (by decide))).mono ?_
        rintro e w2 ⟨b, rfl, hE, hm⟩
        have HE := Lib.hid hE
        have H2 := Lib.hid (H1.out.ext hm)
        clear hE hm
        go_wp2_with fail
        refine bodyPost_ret (v := .tuple #[.pointer none, faultV b]) (by simp [results, Tryz.results58, go_sem]) rfl ?_
        rw [HV.out]
        exact .inr ⟨rfl, b, F1, rfl, H2.out.1.pg, (N1.out.trans H2.out.2).shrink (fun k hk => .inl hk), HE.out⟩
      | false =>
        have h3 := of_decide_eq_false hq3
        cases q4 with
        | true =>
          have HV : Hid (askB from_ to_ most = false) := Lib.hid (by rw [HA.out]; rfl)
          have h4 := of_decide_eq_true hq4
          clear hq3 hq4
          go_wp2_with fail
          refine (HB1.out _).mono ?_
          rintro e w2 ⟨rfl, rfl⟩
          go_wp2_with fail
          refine (HB2.out _).mono ?_
          rintro e w2 ⟨rfl, rfl⟩
          go_wp2_with fail
          refine (new_any H1.out.env _ _ [] 2 (.sent 2 (by decide) (by decide))).mono ?_
          rintro e w2 ⟨b, rfl, hE, hm⟩
          have HE := Lib.hid hE
          have H2 := Lib.hid (H1.out.ext hm)
          clear hE hm
          go_wp2_with fail
          refine bodyPost_ret (v := .tuple #[.pointer none, faultV b]) (by simp [results, Tryz.results58, go_sem]) rfl ?_
          rw [HV.out]
          exact .inr ⟨rfl, b, F1, rfl, H2.out.1.pg, (N1.out.trans H2.out.2).shrink (fun k hk => .inl hk), HE.out⟩
        | false =>
          have HV : Hid (askB from_ to_ most = true) := Lib.hid (by rw [HA.out]; rfl)
          have h4 := of_decide_eq_false hq4
          clear hq3 hq4
          go_wp2_with fail
          refine (HB1.out _).mono ?_
          rintro e w2 ⟨rfl, rfl⟩
          go_wp2_with fail
          refine (HB2.out _).mono ?_
          rintro e w2 ⟨rfl, rfl⟩
          go_wp2_with fail
          refine bodyPost_ret (v := .tuple #[.pointer (some ⟨kb, 0, none⟩), .nilIface]) (by simp [results, Tryz.results58, go_sem]) rfl ?_
          rw [HV.out]
          exact .inl ⟨rfl, kb, base, F1, rfl, H1.out, N1.out⟩
set_option maxRecDepth 100000 in
theorem open_nil (hL : Env F ad w) (z : Int) (root : Int) (op from_ to_ : ByteArray) (most : Int) :
    Calls Tryz.prog 58 #[.string op, .agg #[.pointer none, .pointer none, .int .u64 z], .int .i64 root, .string from_, .string to_, .int .i64 most] w fun e w' => ∃ b, e = .returned (.tuple #[.pointer none, faultV b]) ∧ ErrC F ad w' (faultV b) [-1, -1] 7 ∧ Ext w w' := by
  have m0 : Ext w (w.alloc (.cells #[.pointer none, .pointer none, .int .u64 z] 34)) := (Mods.refl _ w).alloc _
  have HL := Lib.hid (hL.mods m0.ext)
  have HM0 := Lib.hid m0
  have HNW := Lib.hid (new_nil HL.out none none (.inl rfl) z root)
  clear hL m0
  go_enter Tryz.func58, Tryz.ntmps58
  go_wp2_with fail
  refine (HNW.out).mono ?_
  rintro e w1 ⟨b, rfl, hE, hm⟩
  have HW := Lib.hid (fun op => wrap_any (HL.out.mods hm.ext) op _ _ _ hE)
  have HM1 := Lib.hid (HM0.out.trans hm)
  clear hE hm
  go_wp2_with fail
  refine (HW.out _).mono ?_
  rintro e w2 ⟨f2, rfl, hE2, hm2⟩
  have HE2 := Lib.hid hE2
  have HM2 := Lib.hid (HM1.out.trans hm2)
  clear hE2 hm2
  go_wp2_with fail
  refine bodyPost_ret (v := .tuple #[.pointer none, faultV f2]) (by simp [results, Tryz.results58, go_sem]) rfl ?_
  exact ⟨f2, rfl, HE2.out, HM2.out⟩
set_option maxRecDepth 100000 in
theorem range_nil (hL : Env F ad w) (z : Int) (root : Int) (from_ to_ : ByteArray) (most : Int) :
    Calls Tryz.prog 34 #[.agg #[.pointer none, .pointer none, .int .u64 z], .int .i64 root, .string from_, .string to_, .int .i64 most] w fun e w' => ∃ b, e = .returned (.tuple #[.slice none 0 0, faultV b]) ∧ ErrC F ad w' (faultV b) [-1, -1] 7 ∧ Ext w w' := by
  have m0 : Ext w (w.alloc (.cells #[.pointer none, .pointer none, .int .u64 z] 34)) := (Mods.refl _ w).alloc _
  have HNW := Lib.hid (fun op => open_nil (hL.mods m0.ext) z root op from_ to_ most)
  have HM0 := Lib.hid m0
  clear hL m0
  go_enter Tryz.func34, Tryz.ntmps34
  go_wp2_with fail
  refine (HNW.out _).mono ?_
  rintro e w1 ⟨b, rfl, hE, hm⟩
  have HE := Lib.hid hE
  have HM1 := Lib.hid (HM0.out.trans hm)
  clear hE hm
  go_wp2_with fail
  refine bodyPost_ret (v := .tuple #[.slice none 0 0, faultV b]) (by simp [results, Tryz.results34, go_sem]) rfl ?_
  exact ⟨b, rfl, HE.out, HM1.out⟩
set_option maxRecDepth 100000 in
theorem back_nil (hL : Env F ad w) (z : Int) (root : Int) (from_ : ByteArray) (most : Int) :
    Calls Tryz.prog 19 #[.agg #[.pointer none, .pointer none, .int .u64 z], .int .i64 root, .string from_, .int .i64 most] w fun e w' => ∃ b, e = .returned (.tuple #[.slice none 0 0, faultV b]) ∧ ErrC F ad w' (faultV b) [-1, -1] 7 ∧ Ext w w' := by
  have m0 : Ext w (w.alloc (.cells #[.pointer none, .pointer none, .int .u64 z] 34)) := (Mods.refl _ w).alloc _
  have HNW := Lib.hid (fun op => open_nil (hL.mods m0.ext) z root op from_ ⟨#[]⟩ most)
  have HM0 := Lib.hid m0
  clear hL m0
  go_enter Tryz.func19, Tryz.ntmps19
  go_wp2_with fail
  refine (HNW.out _).mono ?_
  rintro e w1 ⟨b, rfl, hE, hm⟩
  have HE := Lib.hid hE
  have HM1 := Lib.hid (HM0.out.trans hm)
  clear hE hm
  go_wp2_with fail
  refine bodyPost_ret (v := .tuple #[.slice none 0 0, faultV b]) (by simp [results, Tryz.results19, go_sem]) rfl ?_
  exact ⟨b, rfl, HE.out, HM1.out⟩
end
end Go.Proofs.YtepafbokbfcbgaaGreatDoor
namespace Go.Proofs.YtepafbokbfcbgaaGreatDoor
open Go.RowKit
attribute [local go_sem ↓] Go.wp_at_zero Go.wp_at_succ
theorem load_zero (id : Int) : ∃ er, (putsG (G0 200) []).load id = .inr er := by
  by_cases h : id < 0 ∨ ((putsG (G0 200) []).blocks : Int) ≤ id
  · exact ⟨(-1 :: [pgOf id], 2), by unfold GA.load GA.get GA.check; rw [if_pos h]⟩
  · have hb : (putsG (G0 200) []).blocks = 200 := rfl
    rw [hb] at h
    obtain ⟨i, rfl⟩ : ∃ i : Nat, id = (i : Int) := ⟨id.toNat, by omega⟩
    obtain ⟨_, l, h2⟩ := puts_none (n := 200) (ps := []) (i := i) (by omega) (fun p hp => by simp at hp)
    refine ⟨(-1 :: l, 5), ?_⟩
    unfold GA.load
    rw [h2]
theorem edge_zero (root : Int) (hr : root ≠ 0) (last : Bool) : ∃ el ek, edgeA (putsG (G0 200) []) root last = .inr (el, ek) := by
  obtain ⟨⟨el, ek⟩, h⟩ := load_zero root
  refine ⟨el, ek, ?_⟩
  unfold edgeA pushA
  rw [if_neg hr, h]
  rfl
set_option maxRecDepth 100000 in
set_option maxHeartbeats 4000000 in
theorem CursorRefuses_any {ad : Nat → Addr} {w : World} (hL : Env NoB ad w) (hfu : Full ad) (kind : Int) (key : ByteArray) (root : Int) :
    Calls Tryz.prog 9 #[.agg #[.int .i64 kind, .string key], .int .i64 root] w fun e w' => e = .returned (.bool true) ∧ Ext w w' := by
  have m0 : Ext w (w.alloc (.cells #[.int .i64 kind, .string key] 72)) := (Mods.refl _ w).alloc _
  have HL := Lib.hid (hL.mods m0.ext)
  have HFU := Lib.hid hfu
  have HM0 := Lib.hid m0
  have HB := Lib.hid (Blk.new w #[.int .i64 kind, .string key] 72)
  have HT : Hid (putsG (G0 200) ([] : List PageA)).total := Lib.hid (G0_puts_total 200 [])
  have HPC := fun (W : World) (hw : Env NoB ad W) => pager12_any hw [] (.slice none 0 0) (Sl.nil _ _ _ _) (fun x hx => by simp at hx) ⟨List.Pairwise.nil, fun p hp => by simp at hp, fun p hp => by simp at hp, fun p hp => by simp at hp⟩ (by simp)
  have HPC := Lib.hid HPC
  clear hL hfu m0
  go_enter Tryz.func9, Tryz.ntmps9
  go_wp2_with fail
  refine (value_none HL.out).mono ?_
  rintro e w1 ⟨b, rfl, hE, hm⟩
  have HM1 := Lib.hid hm
  have HTL := Lib.hid (tells12T (HL.out.mods HM1.out.ext) HFU.out hE 7 (by omega) rfl)
  clear hE hm
  go_wp2_with fail
  refine (on_none _).mono ?_
  rintro e w2 ⟨rfl, rfl⟩
  go_wp2_with fail
  refine (key_none _).mono ?_
  rintro e w2 ⟨rfl, rfl⟩
  go_wp2_with fail
  refine (HTL.out).mono ?_
  rintro e w2 ⟨rfl, rfl⟩
  go_wp2_with fail
  refine (first_none (HL.out.mods HM1.out.ext)).mono ?_
  rintro e w2 ⟨b2, rfl, hE, hm⟩
  have HM2 := Lib.hid (HM1.out.trans hm)
  have HTL2 := Lib.hid (tells12T (HL.out.mods HM2.out.ext) HFU.out hE 7 (by omega) rfl)
  clear hE hm
  go_wp2_with fail
  refine (HTL2.out).mono ?_
  rintro e w3 ⟨rfl, rfl⟩
  go_wp2_with fail
  refine (last_none (HL.out.mods HM2.out.ext)).mono ?_
  rintro e w3 ⟨b3, rfl, hE, hm⟩
  have HM3 := Lib.hid (HM2.out.trans hm)
  have HTL3 := Lib.hid (tells12T (HL.out.mods HM3.out.ext) HFU.out hE 7 (by omega) rfl)
  have x3 := (HB.out.ext HM3.out).cell (o := 1) (v := .string key) rfl
  clear hE hm
  go_wp2_with fail
  refine (HTL3.out).mono ?_
  rintro e w4 ⟨rfl, rfl⟩
  go_wp2_with fail
  refine (seek_none (HL.out.mods HM3.out.ext) key).mono ?_
  rintro e w4 ⟨b4, rfl, hE, hm⟩
  have HM4 := Lib.hid (HM3.out.trans hm)
  have HTL4 := Lib.hid (tells12T (HL.out.mods HM4.out.ext) HFU.out hE 7 (by omega) rfl)
  clear hE hm
  go_wp2_with fail
  refine (HTL4.out).mono ?_
  rintro e w5 ⟨rfl, rfl⟩
  go_wp2_with fail
  refine (next_none (HL.out.mods HM4.out.ext)).mono ?_
  rintro e w5 ⟨b5, rfl, hE, hm⟩
  have HM5 := Lib.hid (HM4.out.trans hm)
  have HTL5 := Lib.hid (tells12T (HL.out.mods HM5.out.ext) HFU.out hE 7 (by omega) rfl)
  clear hE hm
  go_wp2_with fail
  refine (HTL5.out).mono ?_
  rintro e w6 ⟨rfl, rfl⟩
  go_wp2_with fail
  refine (prev_none (HL.out.mods HM5.out.ext)).mono ?_
  rintro e w6 ⟨b6, rfl, hE, hm⟩
  have HM6 := Lib.hid (HM5.out.trans hm)
  have HTL6 := Lib.hid (tells12T (HL.out.mods HM6.out.ext) HFU.out hE 7 (by omega) rfl)
  clear hE hm
  go_wp2_with fail
  refine (HTL6.out).mono ?_
  rintro e w7 ⟨rfl, rfl⟩
  clear HTL HTL2 HTL3 HTL4 HTL5 HTL6 x3
  go_wp2_with fail
  refine (HPC.out w6 (HL.out.mods HM6.out.ext)).mono ?_
  rintro e w7 ⟨c, s, P, F, rfl, hG, hN⟩
  have hS := (LG.startZ (gen := 5) hG hN 5 rfl)
  have t0 := hS.c0
  have HS := Lib.hid hS
  have HNN := Lib.hid (new_nil hS.env (some ⟨c, 0, none⟩) none (.inr rfl) 0 root)
  clear hG hN hS
  rw [pgV5]
  go_wp2_with fail
  refine (HNN.out).mono ?_
  rintro e w8 ⟨b8, rfl, hE8, hm8⟩
  have HE8 := Lib.hid hE8
  have HS8 := Lib.hid (HS.out.ext hm8)
  have x8 := (HB.out.ext (HM6.out.trans HS8.out.ext0)).cell (o := 1) (v := .string key) rfl
  have HRN := Lib.hid (range_nil HS8.out.env 0 root key ⟨#[]⟩ 1)
  clear hE8 hm8 t0
  go_wp2_with fail
  refine (HRN.out).mono ?_
  rintro e w9 ⟨b9, rfl, hE9, hm9⟩
  have HE9 := Lib.hid hE9
  have HE8 := Lib.hid (HE8.out.mods hm9.ext)
  have HS9 := Lib.hid (HS8.out.ext hm9)
  have x9 := (HB.out.ext (HM6.out.trans HS9.out.ext0)).cell (o := 1) (v := .string key) rfl
  have HBN := Lib.hid (back_nil HS9.out.env 0 root key 1)
  clear hE9 hm9 x8
  go_wp2_with fail
  refine (HBN.out).mono ?_
  rintro e w10 ⟨b10, rfl, hE10, hm10⟩
  have HS10 := Lib.hid (HS9.out.ext hm10)
  have HTL := Lib.hid (tells12T HS10.out.env HFU.out (HE8.out.mods hm10.ext) 7 (by omega) rfl)
  have HTL2 := Lib.hid (tells12T HS10.out.env HFU.out (HE9.out.mods hm10.ext) 7 (by omega) rfl)
  have HTL3 := Lib.hid (tells12T HS10.out.env HFU.out hE10 7 (by omega) rfl)
  have t0 := HS10.out.c0
  have t1 := HS10.out.c1
  have t2 : _ = some (Value.int .u64 5) := HS10.out.c2
  have HNW := Lib.hid (new_cur HS10.out.env HS10.out.sub HS10.out.pg 5 root)
  rw [pgV5] at HNW
  clear hE10 hm10 x9
  go_wp2_with fail
  refine (HTL.out).mono ?_
  rintro e w11 ⟨rfl, rfl⟩
  go_wp2_with fail
  refine (HTL2.out).mono ?_
  rintro e w11 ⟨rfl, rfl⟩
  go_wp2_with fail
  refine (HTL3.out).mono ?_
  rintro e w11 ⟨rfl, rfl⟩
  go_wp2_with fail
  refine (HNW.out).mono ?_
  rintro e w11 ⟨kb, base, F1, rfl, h1, n1⟩
  have H1 := Lib.hid h1
  have N1 := Lib.hid (HS10.out.nx.trans n1)
  clear h1 n1 t0 t1 t2
  by_cases hr : root = 0
  · have hrb : (root == 0) = true := beq_iff_eq.2 hr
    have hF := first_any H1.out HT.out
    have he : edgeA (putsG (G0 200) (([] : List PgE).map (·.1))) root false = .inl [] := by unfold edgeA; exact if_pos hr
    rw [he] at hF
    have HF := Lib.hid hF
    clear hF he hr
    go_wp2_with fail
    refine (HF.out).mono ?_
    rintro e w12 ⟨P2, F2, sv2, st2, h2, n2, rfl, hst⟩
    rw [List.map_eq_nil_iff] at hst
    subst hst
    have HON := Lib.hid (on_any h2)
    simp only [List.isEmpty_nil, Bool.not_true] at HON
    have HX := Lib.hid (HM6.out.trans (N1.out.trans n2).stp.mods)
    have HAW := Lib.hid (awake12_any (HL.out.mods HX.out.ext))
    clear h2 n2
    go_wp2_with fail
    refine (HON.out).mono ?_
    rintro e w13 ⟨rfl, rfl⟩
    go_wp2_with fail
    refine (HAW.out).mono ?_
    rintro e w13 ⟨rfl, hm13⟩
    have HM13 := Lib.hid ((HM0.out.trans HX.out).trans hm13)
    clear hm13
    go_wp2_with fail
    go_ret
    exact ⟨rfl, HM13.out⟩
  · have hrb : (root == 0) = false := beq_eq_false_iff_ne.2 hr
    obtain ⟨el, ek, he⟩ := edge_zero root hr false
    obtain ⟨el2, ek2, he2⟩ := edge_zero root hr true
    have HE2 := Lib.hid he2
    have hF := first_any H1.out HT.out
    have hq : edgeA (putsG (G0 200) (([] : List PgE).map (·.1))) root false = .inr (el, ek) := he
    rw [hq] at hF
    have HF := Lib.hid hF
    clear hF he he2 hq hr
    go_wp2_with fail
    refine (HF.out).mono ?_
    rintro e w12 ⟨P2, F2, sv2, st2, h2, n2, rfl, f2, rfl, hE⟩
    have HON := Lib.hid (on_any h2)
    simp only [List.isEmpty_nil, Bool.not_true] at HON
    have hla := last_any h2 HT.out
    have hq : edgeA (putsG (G0 200) (([] : List PgE).map (·.1))) root true = .inr (el2, ek2) := HE2.out
    rw [hq] at hla
    have HLA := Lib.hid hla
    have N2 := Lib.hid (N1.out.trans n2)
    clear h2 n2 hE hla hq
    go_wp2_with fail
    refine (HON.out).mono ?_
    rintro e w13 ⟨rfl, rfl⟩
    go_wp2_with fail
    refine (HLA.out).mono ?_
    rintro e w13 ⟨P3, F3, sv3, st3, h3, n3, rfl, f3, rfl, hE⟩
    have HON3 := Lib.hid (on_any h3)
    simp only [List.isEmpty_nil, Bool.not_true] at HON3
    have HX := Lib.hid (HM6.out.trans (N2.out.trans n3).stp.mods)
    have HAW := Lib.hid (awake12_any (HL.out.mods HX.out.ext))
    clear h3 n3 hE
    go_wp2_with fail
    refine (HON3.out).mono ?_
    rintro e w14 ⟨rfl, rfl⟩
    go_wp2_with fail
    refine (HAW.out).mono ?_
    rintro e w14 ⟨rfl, hm14⟩
    have HM14 := Lib.hid ((HM0.out.trans HX.out).trans hm14)
    clear hm14
    go_wp2_with fail
    go_ret
    exact ⟨rfl, HM14.out⟩
end Go.Proofs.YtepafbokbfcbgaaGreatDoor
