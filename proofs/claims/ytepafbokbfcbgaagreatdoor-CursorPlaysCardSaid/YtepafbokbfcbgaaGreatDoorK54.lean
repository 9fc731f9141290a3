/- law12.step. | CursorPlays, walked. -/
import Derived.Test.YtepafbokbfcbgaaGreatDoorK51
namespace Go.Proofs.YtepafbokbfcbgaaGreatDoor
open Go.RowKit
attribute [local go_sem ↓] Go.wp_at_zero Go.wp_at_succ
section
variable {ad : Nat → Addr} {w0 w w' : World} {kb root D b : Nat} {G : GA} {L : List PairS} {i : Int} {cs : Array Value} {t : TypeId}
/-- .. beside a block that is left alone. -/
def CLX (ad : Nat → Addr) (w0 w : World) (kb root : Nat) (G : GA) (L : List PairS) (D : Nat) (i : Int) (b : Nat) (cs : Array Value) (t : TypeId) : Prop :=
  ∃ (F P : Nat → Prop) (base c s : Nat) (l0 : List Nat) (sv : Value) (st : List FrE), CuI F P ad w base c s 5 kb (root : Int) G l0 sv st ∧ Nxt NoB (cuQ P kb sv) NoB F ad w0 w ∧ OnPos G L D (st.map FrE.pl) i ∧ ¬ F b ∧ Blk w b cs t
theorem CLS.beside (h : CLS ad w0 w kb root G L D i) (cs : Array Value) (t : TypeId) : CLX ad w0 (w.alloc (.cells cs t)) kb root G L D i w.heap.size cs t := by
  obtain ⟨F, P, base, c, s, l0, sv, st, h1, h2, h3⟩ := h
  have h4 := h1.ext ((Mods.refl _ w).alloc (.cells cs t))
  exact ⟨F, P, base, c, s, l0, sv, st, h4.1, h2.trans h4.2, h3, fun f => by have := h1.env.lt _ f; omega, Blk.new w cs t⟩
theorem CLX.drew (h : CLX ad w0 w kb root G L D i b cs t) : CLX ad w0 w.drew kb root G L D i b cs t := by
  obtain ⟨F, P, base, c, s, l0, sv, st, h1, h2, h3, h5, h6⟩ := h
  have h4 := h1.ext (Mods.refl _ w).drew
  exact ⟨F, P, base, c, s, l0, sv, st, h4.1, h2.trans h4.2, h3, h5, h6.ext (Mods.refl _ w).drew⟩
theorem CLX.cl (h : CLX ad w0 w kb root G L D i b cs t) : CLS ad w0 w kb root G L D i := by
  obtain ⟨F, P, base, c, s, l0, sv, st, h1, h2, h3, h5, h6⟩ := h
  exact ⟨F, P, base, c, s, l0, sv, st, h1, h2, h3⟩
theorem CLX.blk (h : CLX ad w0 w kb root G L D i b cs t) : Blk w b cs t := by
  obtain ⟨F, P, base, c, s, l0, sv, st, h1, h2, h3, h5, h6⟩ := h
  exact h6
theorem seek_clx (h : CLX ad w0 w kb root G L D i b cs t) (ht : G.total) (hT : TreeE G root D L) (key : ByteArray) (hb : boundB key = true) : Calls Tryz.prog 26 #[.pointer (some ⟨kb, 0, none⟩), .string key] w fun e w' => e = .returned .nilIface ∧ CLX ad w0 w' kb root G L D (seekP key L : Int) b cs t := by
  obtain ⟨F, P, base, c, s, l0, sv, st, h1, h2, h3, h5, h6⟩ := h
  obtain ⟨st', e1, e2⟩ := seek_pos key hT
  refine (seekB_any key h1 ht).mono ?_
  rintro e w' ⟨P1, F1, sv1, st1, k1, k2, k3⟩
  have e3 : seekB G (root : Int) key = .inl st' := by unfold seekB; rw [if_pos hb, e1]
  rw [e3] at k3
  exact ⟨k3.1, F1, P1, base, c, s, l0, sv1, st1, k1, h2.trans k2, by rw [k3.2]; exact e2, fun f => h5 (k2.oldF _ h6.lt f), k2.blk h6 (fun hq => h5 (h1.subQ _ hq))⟩
/-- the place behind a call. -/
def stepA (L : List PairS) (i kind : Int) (key : ByteArray) : Int :=
  if kind = 0 then 0 else if kind = 1 then (L.length : Int) - 1 else if kind = 2 then (if boundB key = true then (seekP key L : Int) else -1) else if kind = 3 then stepI L.length i 1 else stepI L.length i (-1)
def StepR (ad : Nat → Addr) (w0 : World) (kb root : Nat) (G : GA) (L : List PairS) (D : Nat) (i : Int) (e : Ending) (w' : World) : Prop := e = .returned (.tuple #[.int .i64 i, .bool true]) ∧ CLS ad w0 w' kb root G L D i
set_option maxRecDepth 100000 in
set_option maxHeartbeats 2000000 in
theorem step12_call {va : Option Addr} {vc : Nat} (hfu : Full ad) (h : CLS ad w0 w kb root G L D i) (hl : Sl NoB w0 2 encP (.slice va L.length vc) L) (hlen : L.length ≤ 1000) (ht : G.total) (hT : TreeE G root D L) (hD : D ≤ 16) (kind : Int) (key : ByteArray) :
    Calls Tryz.prog 31 #[.pointer (some ⟨kb, 0, none⟩), .slice va L.length vc, .int .i64 i, .agg #[.int .i64 kind, .string key]] w (StepR ad w0 kb root G L D (stepA L i kind key)) := by
  have hx := h.beside #[.int .i64 kind, .string key] 72
  have HX := Lib.hid hx
  have HXD := Lib.hid hx.drew
  have HG := Lib.hid ht
  have HT := Lib.hid hT
  have HD := Lib.hid hD
  have HSL := Lib.hid hl
  have HFU := Lib.hid hfu
  have HLN := Lib.hid hlen
  have k0 := hx.blk.cell (o := 0) (v := .int .i64 kind) rfl
  have k1 := hx.blk.cell (o := 1) (v := .string key) rfl
  clear h hx ht hT hD hl hfu
  by_cases c0 : kind = 0
  · have b0 : (kind == 0) = true := beq_iff_eq.2 c0
    have HV : Hid (stepA L i kind key = 0) := Lib.hid (by unfold stepA; rw [if_pos c0])
    have HF := Lib.hid (first_cl HXD.out.cl HG.out HT.out)
    clear c0 hlen
    go_enter Tryz.func31, Tryz.ntmps31
    go_wp2_with fail
    go_region_held3 (fun _ => True) (trivial)
      (first
        | (go_at_call 32; (with_reducible refine (HF.out).mono ?_); rintro e w5 ⟨rfl, hC⟩)
        | fail)
    all_goals
      have HC := Lib.hid hC
      clear hC
      go_wp2_with fail
      refine bodyPost_ret (v := .tuple #[.int .i64 0, .bool true]) (by simp [results, Tryz.results31, go_sem]) rfl ?_
      rw [HV.out]
      exact ⟨rfl, HC.out⟩
  · have b0 : (kind == 0) = false := beq_eq_false_iff_ne.2 c0
    by_cases c1 : kind = 1
    · have b1 : (kind == 1) = true := beq_iff_eq.2 c1
      have HV : Hid (stepA L i kind key = (L.length : Int) - 1) := Lib.hid (by unfold stepA; rw [if_neg c0, if_pos c1])
      have HF := Lib.hid (last_cl HXD.out.cl HG.out HT.out)
      have u1 : IntKind.i64.wrap ((L.length : Int) - 1) = (L.length : Int) - 1 := by rw [IntWalk.i64_in _ (by omega)]
      clear c0 c1
      go_enter Tryz.func31, Tryz.ntmps31
      go_wp2_with fail
      go_region_held3 (fun _ => True) (trivial)
        (first
          | (go_at_call 33; (with_reducible refine (HF.out).mono ?_); rintro e w5 ⟨rfl, hC⟩)
          | fail)
      all_goals
        have HC := Lib.hid hC
        clear hC
        go_wp2_with fail
        refine bodyPost_ret (v := .tuple #[.int .i64 ((L.length : Int) - 1), .bool true]) (by simp [results, Tryz.results31, go_sem]) rfl ?_
        rw [HV.out]
        exact ⟨rfl, HC.out⟩
    · have b1 : (kind == 1) = false := beq_eq_false_iff_ne.2 c1
      by_cases c2 : kind = 2
      · have b2 : (kind == 2) = true := beq_iff_eq.2 c2
        cases hb : boundB key with
        | false =>
          have HV : Hid (stepA L i kind key = -1) := Lib.hid (by unfold stepA; rw [if_neg c0, if_neg c1, if_pos c2, hb]; rfl)
          have HBD := Lib.hid (bound12_any key (w.alloc (.cells #[.int .i64 kind, .string key] 72)))
          have HSK := Lib.hid (seek_no HX.out.cl HG.out key hb)
          rw [hb] at HBD
          clear hb c0 c1 c2 hlen
          go_enter Tryz.func31, Tryz.ntmps31
          go_wp2_with fail
          refine (HBD.out).mono ?_
          rintro e w5 ⟨rfl, rfl⟩
          go_wp2_with fail
          refine (HSK.out).mono ?_
          rintro e w5 ⟨f, F5, rfl, hL5, hE5, hC⟩
          have HTL := Lib.hid (tells12T hL5 HFU.out hE5 2 (by omega) rfl)
          have HC := Lib.hid hC
          clear hL5 hE5 hC
          go_wp2_with fail
          refine (HTL.out).mono ?_
          rintro e w6 ⟨rfl, rfl⟩
          go_wp2_with fail
          refine bodyPost_ret (v := .tuple #[.int .i64 (-1), .bool true]) (by simp [results, Tryz.results31, go_sem]) rfl ?_
          rw [HV.out]
          exact ⟨rfl, HC.out⟩
        | true =>
          have HV : Hid (stepA L i kind key = (seekP key L : Int)) := Lib.hid (by unfold stepA; rw [if_neg c0, if_neg c1, if_pos c2, hb]; rfl)
          have HBD := Lib.hid (bound12_any key (w.alloc (.cells #[.int .i64 kind, .string key] 72)))
          have HSK := Lib.hid (seek_clx HXD.out HG.out HT.out key hb)
          have HS12 := Lib.hid (seek12_any L (.slice va L.length vc) (HXD.out.cl.sl HSL.out) HLN.out key)
          have kd1 : (w.alloc (.cells #[.int .i64 kind, .string key] 72)).drew.cell? ⟨w.heap.size, 1, none⟩ = some (.string key) := HXD.out.blk.cell rfl
          rw [hb] at HBD
          clear hb c0 c1 c2 hlen
          go_enter Tryz.func31, Tryz.ntmps31
          go_wp2_with fail
          refine (HBD.out).mono ?_
          rintro e w5 ⟨rfl, rfl⟩
          go_wp2_with fail
          go_region_held3 (fun w' => w'.cell? ⟨w.heap.size, 1, none⟩ = some (.string key))
            (first | (with_reducible exact k1) | (with_reducible exact kd1) | (with_reducible exact y1) | go_keep)
            (first
              | (go_at_call 25; (with_reducible refine (HS12.out).mono ?_); rintro e w5 ⟨rfl, rfl⟩)
              | (go_at_call 26; (with_reducible refine (HSK.out).mono ?_); rintro e w5 ⟨rfl, hC⟩; have y1 := hC.blk.cell (o := 1) (v := .string key) rfl)
              | fail)
          all_goals
            have HC := Lib.hid hC.cl
            clear hC y1 k0 k1 kd1
            go_wp2_with fail
            refine bodyPost_ret (v := .tuple #[.int .i64 (seekP key L : Int), .bool true]) (by simp [results, Tryz.results31, go_sem]) rfl ?_
            rw [HV.out]
            exact ⟨rfl, HC.out⟩
      · have b2 : (kind == 2) = false := beq_eq_false_iff_ne.2 c2
        by_cases c3 : kind = 3
        · have b3 : (kind == 3) = true := beq_iff_eq.2 c3
          have HV : Hid (stepA L i kind key = stepI L.length i 1) := Lib.hid (by unfold stepA; rw [if_neg c0, if_neg c1, if_neg c2, if_pos c3])
          have HF := Lib.hid (next_cl HXD.out.cl HG.out HD.out)
          have HS12 := Lib.hid (fun W => step12_any (la := va) (n := L.length) (lc := vc) (by omega) i 1 (by omega) W)
          clear c0 c1 c2 c3 hlen
          go_enter Tryz.func31, Tryz.ntmps31
          go_wp2_with fail
          go_region_held3 (fun _ => True) (trivial)
            (first
              | (go_at_call 67; (with_reducible refine (HS12.out _).mono ?_); rintro e w5 ⟨rfl, rfl⟩)
              | (go_at_call 27; (with_reducible refine (HF.out).mono ?_); rintro e w5 ⟨rfl, hC⟩)
              | fail)
          all_goals
            have HC := Lib.hid hC
            clear hC
            go_wp2_with fail
            refine bodyPost_ret (v := .tuple #[.int .i64 (stepI L.length i 1), .bool true]) (by simp [results, Tryz.results31, go_sem]) rfl ?_
            rw [HV.out]
            exact ⟨rfl, HC.out⟩
        · have b3 : (kind == 3) = false := beq_eq_false_iff_ne.2 c3
          have HV : Hid (stepA L i kind key = stepI L.length i (-1)) := Lib.hid (by unfold stepA; rw [if_neg c0, if_neg c1, if_neg c2, if_neg c3])
          have HF := Lib.hid (prev_cl HXD.out.cl HG.out HD.out)
          have HS12 := Lib.hid (fun W => step12_any (la := va) (n := L.length) (lc := vc) (by omega) i (-1) (by omega) W)
          clear c0 c1 c2 c3 hlen
          go_enter Tryz.func31, Tryz.ntmps31
          go_wp2_with fail
          go_region_held3 (fun _ => True) (trivial)
            (first
              | (go_at_call 67; (with_reducible refine (HS12.out _).mono ?_); rintro e w5 ⟨rfl, rfl⟩)
              | (go_at_call 29; (with_reducible refine (HF.out).mono ?_); rintro e w5 ⟨rfl, hC⟩)
              | fail)
          all_goals
            have HC := Lib.hid hC
            clear hC
            go_wp2_with fail
            refine bodyPost_ret (v := .tuple #[.int .i64 (stepI L.length i (-1)), .bool true]) (by simp [results, Tryz.results31, go_sem]) rfl ?_
            rw [HV.out]
            exact ⟨rfl, HC.out⟩
end
end Go.Proofs.YtepafbokbfcbgaaGreatDoor
namespace Go.Proofs.YtepafbokbfcbgaaGreatDoor
open Go.RowKit
attribute [local go_sem ↓] Go.wp_at_zero Go.wp_at_succ
/-- a call that is asked for. -/
def encAct (a : Int × ByteArray) : List Value := [.int .i64 a.1, .string a.2]
set_option maxRecDepth 100000 in
set_option maxHeartbeats 2000000 in
theorem CursorPlays_any {ad : Nat → Addr} {w : World} (hL : Env NoB ad w) (hfu : Full ad) (l : List PairS) (lv : Value) (hl : Sl NoB w 2 encP lv l) (E K : Nat) (hE : E < 256) (hK : K < 256) (acts : List (Int × ByteArray)) (av : Value) (ha : Sl NoB w 2 encAct av acts) :
    Calls Tryz.prog 6 #[.agg #[lv, .int .u8 (E : Int), .int .u8 (K : Int)], av] w fun e w' => e = .returned (.bool true) ∧ Ext w w' := by
  have HL := Lib.hid hL
  have HFU := Lib.hid hfu
  have m0 : Ext w (w.alloc (.cells #[lv, .int .u8 (E : Int), .int .u8 (K : Int)] 50)) := (Mods.refl _ w).alloc _
  have HMD := Lib.hid (made_any (hL.mods m0.ext) l lv (hl.ext m0) E K hE hK)
  have HM0 := Lib.hid m0
  have HTL : Hid ((tameP 300 l).length ≤ 1000) := Lib.hid (by have := (tameP_ok 300 l).len; omega)
  obtain ⟨L, hLL⟩ : ∃ L, L = tameP 300 l := ⟨_, rfl⟩
  rw [← hLL] at HMD HTL
  obtain ⟨la, lc, rfl, _, _, _, _⟩ := hl
  have HAS := Lib.hid ha
  obtain ⟨aa, ac, rfl, a1, a2, a3, _⟩ := ha
  unfold maxLen at a2
  obtain ⟨N, hN⟩ : ∃ N, N = min acts.length 40 := ⟨_, rfl⟩
  have hN1 : N ≤ acts.length := by omega
  have hN2 : N ≤ 40 := by omega
  have HN3 : Hid (acts.length ≤ N ∨ 40 ≤ N) := Lib.hid (by omega)
  clear hL hfu m0 hLL hN
  go_enter Tryz.func6, Tryz.ntmps6
  go_wp2_with fail
  refine (HMD.out).mono ?_
  rintro e w1 ⟨kb, va, vc, w0, root, D, G, rfl, hm1, hsl, hC, hG, hT, hD⟩
  have HM1 := Lib.hid (HM0.out.trans hm1)
  have HC := Lib.hid hC
  have HSL := Lib.hid hsl
  have HG := Lib.hid hG
  have HT := Lib.hid hT
  have HD := Lib.hid hD
  clear hm1 hsl hC hG hT hD
  go_wp2_with fail
  go_loopg [8, 9] N (fun m v8 v9 wr => ∃ (k : Nat) (z : Int), k + m = N ∧ v8 = .int .i64 z ∧ v9 = .int .i64 (k : Int) ∧ Hid (CLS ad w0 wr kb root G L D z))
  case atStart => exact ⟨0, -1, by omega, rfl, rfl, HC⟩
  case round =>
    obtain ⟨k, z, hkm, rfl, rfl, HCk⟩ := hrel
    by_cases hlt : k < N
    · have hka : k < acts.length := by omega
      obtain ⟨x, hx⟩ : ∃ x, x = acts[k] := ⟨_, rfl⟩
      obtain ⟨b, off, e5, hcc⟩ := HAS.out.elem hka (HM1.out.trans HCk.out.ext0)
      subst e5
      rw [← hx] at hcc
      have c0 := hcc 0 (.int .i64 x.1) rfl
      have c1 := hcc 1 (.string x.2) rfl
      simp only [Nat.add_zero] at c0
      have HST := Lib.hid (step12_call HFU.out HCk.out HSL.out HTL.out HG.out HT.out HD.out x.1 x.2)
      obtain ⟨z2, hz2⟩ : ∃ z2, z2 = stepA L z x.1 x.2 := ⟨_, rfl⟩
      rw [← hz2] at HST
      have i1 : (0 : Int) ≤ (k : Int) := by omega
      have i2 : (k : Int) < (acts.length : Int) := by omega
      have i3 : (k : Int) < 40 := by omega
      clear hcc hx hz2
      go_wp2_with fail
      refine (HST.out).mono ?_
      rintro e w3 ⟨rfl, hC⟩
      have HSM := Lib.hid (same12_any HFU.out hC HSL.out)
      clear hC c0 c1
      go_wp2_with fail
      refine (HSM.out).mono ?_
      rintro e w4 ⟨rfl, hC⟩
      have HC4 := Lib.hid hC
      clear hC
      go_wp2_with fail
      go_roundg (gk - 1)
      case measure => omega
      case rel => exact ⟨k + 1, z2, by omega, rfl, by go_num, HC4⟩
    · have hk : k = N := by omega
      subst hk
      have HX := Lib.hid (HM1.out.trans HCk.out.ext0)
      have HAW := Lib.hid (awake12_any (HL.out.mods HX.out.ext))
      by_cases h1 : k < acts.length
      · have h2 : ¬ (k : Int) < 40 := by have := HN3.out; omega
        have h3 : (k : Int) < (acts.length : Int) := by omega
        go_wp2_with fail
        refine (HAW.out).mono ?_
        rintro e w4 ⟨rfl, hm4⟩
        have HM4 := Lib.hid (HX.out.trans hm4)
        clear hm4
        go_wp2_with fail
        go_ret
        exact ⟨rfl, HM4.out⟩
      · have h3 : ¬ (k : Int) < (acts.length : Int) := by omega
        go_wp2_with fail
        refine (HAW.out).mono ?_
        rintro e w4 ⟨rfl, hm4⟩
        have HM4 := Lib.hid (HX.out.trans hm4)
        clear hm4
        go_wp2_with fail
        go_ret
        exact ⟨rfl, HM4.out⟩
end Go.Proofs.YtepafbokbfcbgaaGreatDoor
