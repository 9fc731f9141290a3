/- cursor.New. | law12.made, same, awake. | law12.awake. | CursorBack, walked. -/
import Derived.Test.YtepafbokbfcbgaaGreatDoorK50
import Derived.Test.YtepafbokbfcbgaaGreatDoorK48
import Derived.Test.YtepafbokbfcbgaaGreatDoorK46
import Derived.Test.YtepafbokbfcbgaaGreatDoorK35
namespace Go.Proofs.YtepafbokbfcbgaaGreatDoor
open Go.RowKit
attribute [local go_sem ↓] Go.wp_at_zero Go.wp_at_succ
section
variable {F P P' F' P1 F1 : Nat → Prop} {ad : Nat → Addr} {w w' w0 w1 : World} {base c s gen kb : Nat} {root : Int} {G G' : GA} {l l' : List Nat} {sv sv' : Value} {st st' : List FrE} {x : FrE}
/-- a new cursor beside its pager. -/
def NewD (F P : Nat → Prop) (ad : Nat → Addr) (w : World) (c s gen : Nat) (root : Int) (G : GA) (l : List Nat) (e : Ending) (w' : World) : Prop :=
  ∃ kb base F', e = .returned (.tuple #[.pointer (some ⟨kb, 0, none⟩), .nilIface]) ∧ CuI F' P ad w' base c s gen kb root G l (.slice none 0 0) [] ∧ Nxt P (cuQ P kb (.slice none 0 0)) F F' ad w w'
set_option maxRecDepth 100000 in
theorem new_cur (hL : Env F ad w) (hP : ∀ k, P k → F k) (h : PgR F w P c s G l) (gen : Nat) (root : Int) :
    Calls Tryz.prog 40 #[pgV c s gen, .int .i64 root] w (NewD F P ad w c s gen root G l) := by
  have m0 : Ext w (w.alloc (.cells #[.pointer (some ⟨c, 0, none⟩), .pointer (some ⟨s, 0, none⟩), .int .u64 (gen : Int)] 34)) := (Mods.refl _ w).alloc _
  have HN0 := Lib.hid (Nxt.ext hL hP m0)
  have HS := Lib.hid (CuI.start HN0.out.env hP (h.at m0) gen root)
  clear hL hP h m0
  unfold pgV
  go_enter Tryz.func40, Tryz.ntmps40
  go_wp2_with fail
  refine bodyPost_ret (v := .tuple #[.pointer (some ⟨w.heap.size + 1, 0, none⟩), .nilIface]) (by simp [results, Tryz.results40, go_sem]) rfl ?_
  have hz : (w.alloc (.cells #[.pointer (some ⟨c, 0, none⟩), .pointer (some ⟨s, 0, none⟩), .int .u64 (gen : Int)] 34)).heap.size = w.heap.size + 1 := by simp
  have h1 := HS.out.1
  have h2 := HN0.out.trans HS.out.2
  rw [hz] at h1 h2
  exact ⟨_, _, _, rfl, h1, h2⟩
/-- .. of a pager that has no cache or no space. -/
theorem new_nil (hL : Env F ad w) (p1 p2 : Option Addr) (hp : p1 = none ∨ p2 = none) (z : Int) (root : Int) :
    Calls Tryz.prog 40 #[.agg #[.pointer p1, .pointer p2, .int .u64 z], .int .i64 root] w fun e w' => ∃ b, e = .returned (.tuple #[.pointer none, faultV b]) ∧ ErrC F ad w' (faultV b) [-1] 7 ∧ Ext w w' := by
  have m0 : Ext w (w.alloc (.cells #[.pointer p1, .pointer p2, .int .u64 z] 34)) := (Mods.refl _ w).alloc _
  have HL := Lib.hid (hL.mods m0.ext)
  have HM0 := Lib.hid m0
  have c7 := HL.out.c7
  clear hL m0
  cases p1 with
  | none =>
    clear hp
    go_enter Tryz.func40, Tryz.ntmps40
    go_wp2_with fail
    refine (new_any HL.out _ _ [] 7 (.sent 7 (by decide) (by decide))).mono ?_
    rintro e w1 ⟨b, rfl, hE, hm⟩
    have HE := Lib.hid hE
    have HM := Lib.hid (HM0.out.trans hm)
    clear hE hm
    go_wp2_with fail
    refine bodyPost_ret (v := .tuple #[.pointer none, faultV b]) (by simp [results, Tryz.results40, go_sem]) rfl ?_
    exact ⟨b, rfl, HE.out, HM.out⟩
  | some a =>
    obtain rfl : p2 = none := by rcases hp with h | h; cases h; exact h
    go_enter Tryz.func40, Tryz.ntmps40
    go_wp2_with fail
    refine (new_any HL.out _ _ [] 7 (.sent 7 (by decide) (by decide))).mono ?_
    rintro e w1 ⟨b, rfl, hE, hm⟩
    have HE := Lib.hid hE
    have HM := Lib.hid (HM0.out.trans hm)
    clear hE hm
    go_wp2_with fail
    refine bodyPost_ret (v := .tuple #[.pointer none, faultV b]) (by simp [results, Tryz.results40, go_sem]) rfl ?_
    exact ⟨b, rfl, HE.out, HM.out⟩
end
end Go.Proofs.YtepafbokbfcbgaaGreatDoor
namespace Go.Proofs.YtepafbokbfcbgaaGreatDoor
open Go.RowKit
attribute [local go_sem ↓] Go.wp_at_zero Go.wp_at_succ
/-- a cursor over a tree of pairs, on none. -/
def MadeR (ad : Nat → Addr) (w : World) (L : List PairS) (en : Ending) (w' : World) : Prop :=
  ∃ (kb : Nat) (va : Option Addr) (vc : Nat) (w0 : World) (root D : Nat) (G : GA), en = .returned (.tuple #[.pointer (some ⟨kb, 0, none⟩), .slice va L.length vc, .bool true]) ∧ Ext w w0 ∧ Sl NoB w0 2 encP (.slice va L.length vc) L ∧ CLS ad w0 w' kb root G L D (-1) ∧ G.total ∧ TreeE G root D L ∧ D ≤ 16
set_option maxRecDepth 100000 in
set_option maxHeartbeats 2000000 in
theorem made_any {ad : Nat → Addr} {w : World} (hL : Env NoB ad w) (l : List PairS) (lv : Value) (hl : Sl NoB w 2 encP lv l) (E K : Nat) (hE : E < 256) (hK : K < 256) :
    Calls Tryz.prog 24 #[.agg #[lv, .int .u8 (E : Int), .int .u8 (K : Int)]] w (MadeR ad w (tameP 300 l)) := by
  have HL := Lib.hid hL
  have hT0 := tree_on (tameP_ok 300 l) (e := 1 + E % 3) (k := 2 + K % 3) (by omega) (by omega) (by omega) (by omega)
  have HT := Lib.hid hT0
  have HTE := Lib.hid (hT0.full (by omega) (by omega) (by omega) (by omega))
  have m0 : Ext w (w.alloc (.cells #[lv, .int .u8 (E : Int), .int .u8 (K : Int)] 50)) := (Mods.refl _ w).alloc _
  have HBC := Lib.hid (built12_any l lv (hl.ext m0) E K hE hK)
  have HM0 := Lib.hid m0
  obtain ⟨la, lc, rfl, _, _, _, _⟩ := hl
  clear hL m0 hT0
  go_enter Tryz.func24, Tryz.ntmps24
  go_wp2_with fail
  refine (HBC.out).mono ?_
  rintro e w1 ⟨pv, xs, vl, rfl, hP, hxs, hO, hm1⟩
  obtain ⟨q, hq⟩ : ∃ q, q = tameP 300 l := ⟨_, rfl⟩
  rw [← hq] at hxs HT HTE hO ⊢
  obtain ⟨r, hr⟩ : ∃ r, r = buildA 5 (1 + E % 3) (2 + K % 3) q := ⟨_, rfl⟩
  rw [← hr] at hxs HT HTE ⊢
  have HM1 := Lib.hid (HM0.out.trans hm1)
  have hpu := HT.out.puts
  rw [← hxs] at hpu
  have hln : xs.length ≤ 1000 := by have := HT.out.few; rw [← hxs, List.length_map] at this; omega
  have hql := HT.out.tame.len
  obtain ⟨hsl, hbs⟩ := hP.pages hln (fun x hx => hpu.bodies _ (List.mem_map_of_mem hx))
  obtain ⟨pa, pc, rfl, _, _⟩ := hP.row.form
  have hqs : Sl NoB w1 2 encP vl q := hO.sl encP_ok.len (by omega)
  have m2 : Ext w1 (w1.alloc (.cells #[.slice pa xs.length pc, .int .i64 (r.2.1 : Int), .int .i64 (r.2.2 : Int)] 27)) := (Mods.refl _ w1).alloc _
  have HPC := Lib.hid (pager12_any (HL.out.mods ((HM1.out.trans m2).ext)) xs (.slice pa xs.length pc) (hsl.ext m2) (fun x hx => (hbs x hx).ext m2) hpu hln)
  have HTB := Lib.hid (Blk.new w1 #[.slice pa xs.length pc, .int .i64 (r.2.1 : Int), .int .i64 (r.2.2 : Int)] 27)
  have HM2 := Lib.hid (HM1.out.trans m2)
  have HQS := Lib.hid (hqs.ext m2)
  obtain ⟨va, vc, rfl, v1, v2, v3, _⟩ := hqs
  unfold maxLen at v2
  rw [hxs] at HPC
  have HQ := Lib.hid hq
  clear hP hxs hm1 hr hpu hln hsl hbs m2 hO hq
  go_wp2_with fail
  refine (HPC.out).mono ?_
  rintro e w2 ⟨c, s, P, F, rfl, hG, hN⟩
  have hS := LG.startZ (gen := 5) hG hN 5 rfl
  have t0 := hS.c0
  have t1 := hS.c1
  have t2 : _ = some (Value.int .u64 5) := hS.c2
  have hb := hS.old HTB.out
  have b1 := hb.cell (o := 1) (v := .int .i64 (r.2.1 : Int)) rfl
  have HS := Lib.hid hS
  have HTT : Hid (putsG (G0 200) r.1).total := Lib.hid (G0_puts_total 200 r.1)
  have HNW := Lib.hid (new_cur hS.env hS.sub hS.pg 5 (r.2.1 : Int))
  rw [pgV5] at HNW ⊢
  clear hG hN hS hb
  go_wp2_with fail
  refine (HNW.out).mono ?_
  rintro e w3 ⟨kb, base, F3, rfl, h1, h2⟩
  have HC : Hid (CLS ad _ w3 kb r.2.1 (putsG (G0 200) r.1) q r.2.2 (-1)) := Lib.hid ⟨F3, P, base, c, s, _, _, _, h1, HS.out.nx.trans h2, .inr ⟨.inl (by omega), rfl⟩⟩
  have HD : Hid (r.2.2 ≤ 16) := Lib.hid (by rcases HTE.out.1 with ⟨_, _, h⟩ | ⟨_, _, h, _⟩ <;> omega)
  clear h1 h2 t0 t1 t2 b1
  go_wp2_with fail
  refine bodyPost_ret (v := .tuple #[.pointer (some ⟨kb, 0, none⟩), .slice va q.length vc, .bool true]) (by simp [results, Tryz.results24, go_sem]) rfl ?_
  rw [← HQ.out]
  exact ⟨kb, va, vc, _, r.2.1, r.2.2, _, rfl, HM2.out, HQS.out, HC.out, HTT.out, HTE.out, HD.out⟩
/-- does the cursor stand at a place of the pairs? -/
def SameR (ad : Nat → Addr) (w0 : World) (kb root : Nat) (G : GA) (L : List PairS) (D : Nat) (i : Int) (en : Ending) (w' : World) : Prop := en = .returned (.bool true) ∧ CLS ad w0 w' kb root G L D i
set_option maxRecDepth 100000 in
set_option maxHeartbeats 2000000 in
theorem same12_any {ad : Nat → Addr} {w0 w : World} {kb root D : Nat} {G : GA} {L : List PairS} {i : Int} {va : Option Addr} {vc : Nat} (hfu : Full ad) (h : CLS ad w0 w kb root G L D i) (hl : Sl NoB w0 2 encP (.slice va L.length vc) L) :
    Calls Tryz.prog 30 #[.pointer (some ⟨kb, 0, none⟩), .slice va L.length vc, .int .i64 i] w (SameR ad w0 kb root G L D i) := by
  cases ho : onI L.length i with
  | false =>
    have HV := Lib.hid (value_cloff h ho)
    have HO := Lib.hid (on12_any (la := va) (n := L.length) (lc := vc) i)
    have HC := Lib.hid h
    have HFU := Lib.hid hfu
    have HOI := Lib.hid ho
    rw [ho] at HO
    clear h hl hfu ho
    go_enter Tryz.func30, Tryz.ntmps30
    go_wp2_with fail
    refine (HV.out).mono ?_
    rintro e w1 ⟨b, F, rfl, hL, hE, hm⟩
    have HTL := Lib.hid (tells12T hL HFU.out hE 7 (by omega) rfl)
    have HC1 := Lib.hid (HC.out.ext hm)
    have hon := on_cl HC1.out
    rw [HOI.out] at hon
    have HON := Lib.hid hon
    have HKO := Lib.hid (key_cloff HC1.out HOI.out)
    clear hL hE hm hon
    go_wp2_with fail
    refine (HO.out _).mono ?_
    rintro e w2 ⟨rfl, rfl⟩
    go_wp2_with fail
    refine (HON.out).mono ?_
    rintro e w2 ⟨rfl, rfl⟩
    go_wp2_with fail
    refine (HKO.out).mono ?_
    rintro e w2 ⟨rfl, rfl⟩
    go_wp2_with fail
    refine (HTL.out).mono ?_
    rintro e w2 ⟨rfl, rfl⟩
    go_wp2_with fail
    go_ret
    exact ⟨rfl, HC1.out⟩
  | true =>
    have h1 := of_decide_eq_true ho
    obtain ⟨k, rfl⟩ : ∃ k : Nat, i = (k : Int) := ⟨i.toNat, by omega⟩
    have hk : k < L.length := by omega
    have HX : Hid (L[k]? = some L[k]) := Lib.hid (List.getElem?_eq_getElem hk)
    have HV := Lib.hid (value_cl h rfl HX.out)
    have HO := Lib.hid (on12_any (la := va) (n := L.length) (lc := vc) (k : Int))
    have HOI := Lib.hid ho
    have HSL := Lib.hid hl
    rw [ho] at HO
    obtain ⟨x, hx⟩ : ∃ x, x = L[k] := ⟨_, rfl⟩
    rw [← hx] at HV HX
    have HXK := Lib.hid hx
    have i1 : (0 : Int) ≤ (k : Int) := by omega
    have i2 : (k : Int) < (L.length : Int) := by omega
    clear h hl ho h1 hx
    go_enter Tryz.func30, Tryz.ntmps30
    go_wp2_with fail
    refine (HV.out).mono ?_
    rintro e w1 ⟨rfl, hc⟩
    have HC1 := Lib.hid hc
    have HON := Lib.hid (fun q => on_clq HC1.out HOI.out q)
    have HKY := Lib.hid (fun q => key_clq HC1.out rfl HX.out q)
    obtain ⟨b, off, e5, hcc⟩ := (HC1.out.sl HSL.out).elem hk (Mods.refl _ _)
    subst e5
    rw [← HXK.out] at hcc
    have c0 := hcc 0 (.string x.1) rfl
    have c1 := hcc 1 (.string x.2) rfl
    simp only [Nat.add_zero] at c0
    clear hc hcc
    go_wp2_with fail
    refine (HO.out _).mono ?_
    rintro e w2 ⟨rfl, rfl⟩
    go_wp2_with fail
    go_quiet (first | (go_at_call 28; exact HON.out _) | (go_at_call 39; exact HKY.out _))
    go_wp2_with fail
    go_ret
    exact ⟨rfl, HC1.out.ext ((Mods.refl _ w1).drewN _)⟩
end Go.Proofs.YtepafbokbfcbgaaGreatDoor
namespace Go.Proofs.YtepafbokbfcbgaaGreatDoor
open Go.RowKit
attribute [local go_sem ↓] Go.wp_at_zero Go.wp_at_succ
theorem Sl.pair2 {α : Type} {F : Nat → Prop} {w : World} {sz : Nat} {enc : α → List Value} {x y : α} {b : Nat} {t : TypeId} {fz : Nat × Nat} (h : w.heap[b]? = some (.cells (enc x ++ enc y).toArray t fz)) (hx : (enc x).length = sz) (hF : ¬ F b) :
    Sl F w sz enc (.slice (some ⟨b, 0, none⟩) 2 2) [x, y] := by
  refine ⟨_, 2, rfl, Nat.le_refl _, by simp [maxLen], by simp, .inr ⟨b, 0, rfl, (Array.getElem?_eq_some_iff.1 h).1, hF, fun i z hi j u hu => ?_⟩⟩
  match i, hi with
  | 0, hi =>
    simp at hi; subst hi
    rw [cells_of_block h]
    have hj : j < (enc x).length := (List.getElem?_eq_some_iff.1 hu).1
    simp only [List.getElem?_toArray, Nat.zero_mul, Nat.zero_add, List.getElem?_append_left hj]; exact hu
  | 1, hi =>
    simp at hi; subst hi
    rw [cells_of_block h]
    simp only [List.getElem?_toArray, Nat.one_mul, Nat.zero_add]
    rw [List.getElem?_append_right (by omega)]
    rw [← hu]; congr 1; omega
/-- two short pairs. -/
def acP : List PairS := [(⟨#[97]⟩, ⟨#[]⟩), (⟨#[99]⟩, ⟨#[]⟩)]
theorem acP_tame : tameP 300 acP = acP := by decide +kernel
theorem acP_seek : seekP ⟨#[98]⟩ acP = 1 := by decide +kernel
set_option maxRecDepth 100000 in
set_option maxHeartbeats 2000000 in
theorem awake12_any {ad : Nat → Addr} {w : World} (hL : Env NoB ad w) : Calls Tryz.prog 22 #[] w fun e w' => e = .returned (.bool true) ∧ Ext w w' := by
  have HM0 : Hid (Ext w (w.alloc (.cells #[.string ⟨#[97]⟩, .string ⟨#[]⟩, .string ⟨#[99]⟩, .string ⟨#[]⟩] 98))) := Lib.hid ((Mods.refl _ w).alloc _)
  have hMD := made_any (hL.mods HM0.out.ext) acP (.slice (some ⟨w.heap.size, 0, none⟩) 2 2) (Sl.pair2 (x := ((⟨#[97]⟩, ⟨#[]⟩) : PairS)) (y := ((⟨#[99]⟩, ⟨#[]⟩) : PairS)) (heap_at rfl) rfl (fun f => f)) 0 0 (by omega) (by omega)
  rw [acP_tame] at hMD
  have HMD : Hid (Calls Tryz.prog 24 #[.agg #[.slice (some ⟨w.heap.size, 0, none⟩) 2 2, .int .u8 0, .int .u8 0]] (w.alloc (.cells #[.string ⟨#[97]⟩, .string ⟨#[]⟩, .string ⟨#[99]⟩, .string ⟨#[]⟩] 98)) (MadeR ad (w.alloc (.cells #[.string ⟨#[97]⟩, .string ⟨#[]⟩, .string ⟨#[99]⟩, .string ⟨#[]⟩] 98)) acP)) := Lib.hid hMD
  clear hL hMD
  go_enter Tryz.func22, Tryz.ntmps22
  go_wp2_with fail
  refine (HMD.out).mono ?_
  rintro e w1 ⟨kb, va, vc, w0, root, D, G, rfl, hm1, hsl, hC, hG, hT, hD⟩
  have HC := Lib.hid hC
  have HSK := Lib.hid (seek_cl hC hG hT ⟨#[98]⟩ (by decide))
  rw [acP_seek] at HSK
  have HM1 := Lib.hid (HM0.out.trans hm1)
  clear hm1 hsl hC hG hT hD
  go_wp2_with fail
  refine (HSK.out).mono ?_
  rintro e w2 ⟨rfl, hC⟩
  have HC2 := Lib.hid hC
  have HON := Lib.hid (on_clq hC (by decide) 0)
  have HKY := Lib.hid (key_cl hC (k := 1) (x := (⟨#[99]⟩, ⟨#[]⟩)) rfl rfl)
  clear hC
  go_wp2_with fail
  refine (on_cl HC2.out).mono ?_
  rintro e w3 ⟨rfl, rfl⟩
  go_wp2_with fail
  refine (HKY.out).mono ?_
  rintro e w3 ⟨rfl, k3, rfl⟩
  go_wp2_with fail
  go_ret
  exact ⟨rfl, (HM1.out.trans HC2.out.ext0).trans ((Mods.refl _ w2).drewN _)⟩
end Go.Proofs.YtepafbokbfcbgaaGreatDoor
namespace Go.Proofs.YtepafbokbfcbgaaGreatDoor
open Go.RowKit
attribute [local go_sem ↓] Go.wp_at_zero Go.wp_at_succ
theorem stepI_back {n : Nat} {i : Int} (h : onI n (stepI n i 1) = true) : onI n i = true ∧ stepI n (stepI n i 1) (-1) = i := by
  have h1 : onI n i = true := by
    cases h2 : onI n i with
    | true => rfl
    | false =>
      unfold stepI at h
      rw [h2] at h
      exact absurd (of_decide_eq_true h) (by simp)
  refine ⟨h1, ?_⟩
  rw [stepI, if_pos h, stepI, if_pos h1]
  omega
theorem stepI_off {n : Nat} {k : Nat} (hk : k ≤ n) (h : onI n (stepI n (k : Int) 1) = false) : (n : Int) - 1 ≤ (k : Int) := by
  by_cases h2 : k < n
  · have h1 : onI n (k : Int) = true := decide_eq_true ⟨by omega, by omega⟩
    unfold stepI at h
    rw [if_pos h1] at h
    have := of_decide_eq_false h
    omega
  · omega
set_option maxRecDepth 100000 in
set_option maxHeartbeats 2000000 in
theorem CursorBack_any {ad : Nat → Addr} {w : World} (hL : Env NoB ad w) (hfu : Full ad) (l : List PairS) (lv : Value) (hl : Sl NoB w 2 encP lv l) (E K : Nat) (hE : E < 256) (hK : K < 256) (key : ByteArray) :
    Calls Tryz.prog 5 #[.agg #[lv, .int .u8 (E : Int), .int .u8 (K : Int)], .string key] w fun e w' => e = .returned (.bool true) ∧ Ext w w' := by
  have HL := Lib.hid hL
  have HFU := Lib.hid hfu
  have m0 : Ext w (w.alloc (.cells #[lv, .int .u8 (E : Int), .int .u8 (K : Int)] 50)) := (Mods.refl _ w).alloc _
  have HMD := Lib.hid (made_any (hL.mods m0.ext) l lv (hl.ext m0) E K hE hK)
  have HM0 := Lib.hid m0
  have HTL : Hid ((tameP 300 l).length ≤ 1000) := Lib.hid (by have := (tameP_ok 300 l).len; omega)
  have HBD := Lib.hid (bound12_any key)
  obtain ⟨L, hLL⟩ : ∃ L, L = tameP 300 l := ⟨_, rfl⟩
  rw [← hLL] at HMD HTL
  obtain ⟨la, lc, rfl, _, _, _, _⟩ := hl
  clear hL hfu m0 hLL
  go_enter Tryz.func5, Tryz.ntmps5
  go_wp2_with fail
  refine (HMD.out).mono ?_
  rintro e w1 ⟨kb, va, vc, w0, root, D, G, rfl, hm1, hsl, hC, hG, hT, hD⟩
  have HM1 := Lib.hid (HM0.out.trans hm1)
  have HC := Lib.hid hC
  have HSL := Lib.hid hsl
  have HG := Lib.hid hG
  have HT := Lib.hid hT
  have HD := Lib.hid hD
  have htl := HTL.out
  clear hm1 hsl hC hG hT hD
  cases hb : boundB key with
  | false =>
    have HX := Lib.hid (HM1.out.trans HC.out.ext0)
    have HAW := Lib.hid (awake12_any (HL.out.mods HX.out.ext))
    have HB := Lib.hid (HBD.out w1)
    rw [hb] at HB
    clear hb
    go_wp2_with fail
    refine (HB.out).mono ?_
    rintro e w2 ⟨rfl, rfl⟩
    go_wp2_with fail
    refine (HAW.out).mono ?_
    rintro e w2 ⟨rfl, hm2⟩
    have HM2 := Lib.hid (HX.out.trans hm2)
    clear hm2
    go_wp2_with fail
    go_ret
    exact ⟨rfl, HM2.out⟩
  | true =>
    have HS12 := Lib.hid (seek12_any L (.slice va L.length vc) (HC.out.sl HSL.out) HTL.out key)
    have HSK := Lib.hid (seek_cl HC.out HG.out HT.out key hb)
    have HB := Lib.hid (HBD.out w1)
    rw [hb] at HB
    obtain ⟨k, hk⟩ : ∃ k, k = seekP key L := ⟨_, rfl⟩
    have hkl : k ≤ L.length := by rw [hk]; exact List.findIdx_le_length
    rw [← hk] at HS12 HSK
    have HKL := Lib.hid hkl
    clear hb hk
    go_wp2_with fail
    refine (HB.out).mono ?_
    rintro e w2 ⟨rfl, rfl⟩
    go_wp2_with fail
    refine (HS12.out).mono ?_
    rintro e w2 ⟨rfl, rfl⟩
    go_wp2_with fail
    refine (HSK.out).mono ?_
    rintro e w2 ⟨rfl, hC⟩
    have HC2 := Lib.hid hC
    have HNX := Lib.hid (next_cl hC HG.out HD.out)
    clear hC
    go_wp2_with fail
    refine (HNX.out).mono ?_
    rintro e w3 ⟨rfl, hC⟩
    have HC3 := Lib.hid hC
    have HON := Lib.hid (on_cl hC)
    clear hC
    have HX := Lib.hid (HM1.out.trans HC3.out.ext0)
    cases ho : onI L.length (stepI L.length (k : Int) 1) with
    | false =>
      have hof := stepI_off HKL.out ho
      have HAW := Lib.hid (awake12_any (HL.out.mods HX.out.ext))
      rw [ho] at HON
      clear ho
      have u1 : IntKind.i64.wrap ((L.length : Int) - 1) = (L.length : Int) - 1 := by rw [IntWalk.i64_in _ (by omega)]
      go_wp2_with fail
      refine (HON.out).mono ?_
      rintro e w4 ⟨rfl, rfl⟩
      go_wp2_with fail
      refine (HAW.out).mono ?_
      rintro e w4 ⟨rfl, hm4⟩
      have HM4 := Lib.hid (HX.out.trans hm4)
      clear hm4
      go_wp2_with fail
      go_ret
      exact ⟨rfl, HM4.out⟩
    | true =>
      obtain ⟨q1, q2⟩ := stepI_back ho
      have hpv := prev_cl HC3.out HG.out HD.out
      rw [q2] at hpv
      have HPV := Lib.hid hpv
      rw [ho] at HON
      clear ho q1 q2 hpv
      go_wp2_with fail
      refine (HON.out).mono ?_
      rintro e w4 ⟨rfl, rfl⟩
      go_wp2_with fail
      refine (HPV.out).mono ?_
      rintro e w4 ⟨rfl, hC⟩
      have HSM := Lib.hid (same12_any HFU.out hC HSL.out)
      clear hC
      go_wp2_with fail
      refine (HSM.out).mono ?_
      rintro e w5 ⟨rfl, hC⟩
      have HX5 := Lib.hid (HM1.out.trans hC.ext0)
      have HAW := Lib.hid (awake12_any (HL.out.mods HX5.out.ext))
      clear hC
      go_wp2_with fail
      refine (HAW.out).mono ?_
      rintro e w6 ⟨rfl, hm6⟩
      have HM6 := Lib.hid (HX5.out.trans hm6)
      clear hm6
      go_wp2_with fail
      go_ret
      exact ⟨rfl, HM6.out⟩
end Go.Proofs.YtepafbokbfcbgaaGreatDoor
