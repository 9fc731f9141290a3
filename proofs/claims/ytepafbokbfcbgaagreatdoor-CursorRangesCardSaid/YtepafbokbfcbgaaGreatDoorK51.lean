/- cursor.New. | law12.made, same, awake. | law12.awake. | CursorBack, walked. -/
import Derived.Test.YtepafbokbfcbgaaGreatDoorK50
import Derived.Test.YtepafbokbfcbgaaGreatDoorK48
import Derived.Test.YtepafbokbfcbgaaGreatDoorK46
import Derived.Test.YtepafbokbfcbgaaGreatDoorK35
namespace Go.Proofs.YtepafbokbfcbgaaGreatDoor
open Go.RowKit
attribute [local go_sem ↓] Go.wp_at_zero Go.wp_at_succ
section
variable {F P P' F' P1 F1 : Nat → Prop} {ad : Nat → Addr} {w w' w0 w1 : World} {base c s gen kb : Nat} {root : Int} {G G' : GA} {l l' : List Nat} {sv sv' : Value} {st st' : List FrE} {x : FrE}
/-- a new cursor beside its pager. -/
def NewD (F P : Nat → Prop) (ad : Nat → Addr) (w : World) (c s gen : Nat) (root : Int) (G : GA) (l : List Nat) (e : Ending) (w' : World) : Prop :=
  ∃ kb base F', e = .returned (.tuple #[.pointer (some ⟨kb, 0, none⟩), .nilIface]) ∧ CuI F' P ad w' base c s gen kb root G l (.slice none 0 0) [] ∧ Nxt P (cuQ P kb (.slice none 0 0)) F F' ad w w'
set_option maxRecDepth 100000 in
theorem new_cur (hL : Env F ad w) (hP : ∀ k, P k → F k) (h : PgR F w P c s G l) (gen : Nat) (root : Int) :
    Calls Tryz.prog 40 #[pgV c s gen, .int .i64 root] w (NewD F P ad w c s gen root G l) := by
  have m0 : Ext w (w.alloc (.cells #[.pointer (some ⟨c, 0, none⟩), .pointer (some ⟨s, 0, none⟩), .int .u64 (gen : Int)] 34)) := (Mods.refl _ w).alloc _
  have HN0 := Lib.hid (Nxt.ext hL hP m0)
  have HS := Lib.hid (CuI.start HN0.out.env hP (h.at m0) gen root)
  clear hL hP h m0
  unfold pgV
  go_enter Tryz.func40, Tryz.ntmps40
  go_wp2_with fail
  refine bodyPost_ret (v := .tuple #[.pointer (some ⟨w.heap.size + 1, 0, none⟩), .nilIface]) (by simp [results, Tryz.results40, go_sem]) rfl ?_
  have hz : (w.alloc (.cells #[.pointer (some ⟨c, 0, none⟩), .pointer (some ⟨s, 0, none⟩), .int .u64 (gen : Int)] 34)).heap.size = w.heap.size + 1 := by simp
  have h1 := HS.out.1
  have h2 := HN0.out.trans HS.out.2
  rw [hz] at h1 h2
  exact ⟨_, _, _, rfl, h1, h2⟩
end
end Go.Proofs.YtepafbokbfcbgaaGreatDoor
namespace Go.Proofs.YtepafbokbfcbgaaGreatDoor
open Go.RowKit
attribute [local go_sem ↓] Go.wp_at_zero Go.wp_at_succ
/-- a cursor over a tree of pairs, on none. -/
def MadeR (ad : Nat → Addr) (w : World) (L : List PairS) (en : Ending) (w' : World) : Prop :=
  ∃ (kb : Nat) (va : Option Addr) (vc : Nat) (w0 : World) (root D : Nat) (G : GA), en = .returned (.tuple #[.pointer (some ⟨kb, 0, none⟩), .slice va L.length vc, .bool true]) ∧ Ext w w0 ∧ Sl NoB w0 2 encP (.slice va L.length vc) L ∧ CLS ad w0 w' kb root G L D (-1) ∧ G.total ∧ TreeE G root D L ∧ D ≤ 16
set_option maxRecDepth 100000 in
set_option maxHeartbeats 2000000 in
theorem made_any {ad : Nat → Addr} {w : World} (hL : Env NoB ad w) (l : List PairS) (lv : Value) (hl : Sl NoB w 2 encP lv l) (E K : Nat) (hE : E < 256) (hK : K < 256) :
    Calls Tryz.prog 24 #[.agg #[lv, .int .u8 (E : Int), .int .u8 (K : Int)]] w (MadeR ad w (tameP 300 l)) := by
  have HL := Lib.hid hL
  have hT0 := tree_on (tameP_ok 300 l) (e := 1 + E % 3) (k := 2 + K % 3) (by omega) (by omega) (by omega) (by omega)
  have HT := Lib.hid hT0
  have HTE := Lib.hid (hT0.full (by omega) (by omega) (by omega) (by omega))
  have m0 : Ext w (w.alloc (.cells #[lv, .int .u8 (E : Int), .int .u8 (K : Int)] 50)) := (Mods.refl _ w).alloc _
  have HBC := Lib.hid (built12_any l lv (hl.ext m0) E K hE hK)
  have HM0 := Lib.hid m0
  obtain ⟨la, lc, rfl, _, _, _, _⟩ := hl
  clear hL m0 hT0
  go_enter Tryz.func24, Tryz.ntmps24
  go_wp2_with fail
  refine (HBC.out).mono ?_
  rintro e w1 ⟨pv, xs, vl, rfl, hP, hxs, hO, hm1⟩
  obtain ⟨q, hq⟩ : ∃ q, q = tameP 300 l := ⟨_, rfl⟩
  rw [← hq] at hxs HT HTE hO ⊢
  obtain ⟨r, hr⟩ : ∃ r, r = buildA 5 (1 + E % 3) (2 + K % 3) q := ⟨_, rfl⟩
  rw [← hr] at hxs HT HTE ⊢
  have HM1 := Lib.hid (HM0.out.trans hm1)
  have hpu := HT.out.puts
  rw [← hxs] at hpu
  have hln : xs.length ≤ 1000 := by have := HT.out.few; rw [← hxs, List.length_map] at this; omega
  have hql := HT.out.tame.len
  obtain ⟨hsl, hbs⟩ := hP.pages hln (fun x hx => hpu.bodies _ (List.mem_map_of_mem hx))
  obtain ⟨pa, pc, rfl, _, _⟩ := hP.row.form
  have hqs : Sl NoB w1 2 encP vl q := hO.sl encP_ok.len (by omega)
  have m2 : Ext w1 (w1.alloc (.cells #[.slice pa xs.length pc, .int .i64 (r.2.1 : Int), .int .i64 (r.2.2 : Int)] 27)) := (Mods.refl _ w1).alloc _
  have HPC := Lib.hid (pager12_any (HL.out.mods ((HM1.out.trans m2).ext)) xs (.slice pa xs.length pc) (hsl.ext m2) (fun x hx => (hbs x hx).ext m2) hpu hln)
  have HTB := Lib.hid (Blk.new w1 #[.slice pa xs.length pc, .int .i64 (r.2.1 : Int), .int .i64 (r.2.2 : Int)] 27)
  have HM2 := Lib.hid (HM1.out.trans m2)
  have HQS := Lib.hid (hqs.ext m2)
  obtain ⟨va, vc, rfl, v1, v2, v3, _⟩ := hqs
  unfold maxLen at v2
  rw [hxs] at HPC
  have HQ := Lib.hid hq
  clear hP hxs hm1 hr hpu hln hsl hbs m2 hO hq
  go_wp2_with fail
  refine (HPC.out).mono ?_
  rintro e w2 ⟨c, s, P, F, rfl, hG, hN⟩
  have hS := LG.startZ (gen := 5) hG hN 5 rfl
  have t0 := hS.c0
  have t1 := hS.c1
  have t2 : _ = some (Value.int .u64 5) := hS.c2
  have hb := hS.old HTB.out
  have b1 := hb.cell (o := 1) (v := .int .i64 (r.2.1 : Int)) rfl
  have HS := Lib.hid hS
  have HTT : Hid (putsG (G0 200) r.1).total := Lib.hid (G0_puts_total 200 r.1)
  have HNW := Lib.hid (new_cur hS.env hS.sub hS.pg 5 (r.2.1 : Int))
  rw [pgV5] at HNW ⊢
  clear hG hN hS hb
  go_wp2_with fail
  refine (HNW.out).mono ?_
  rintro e w3 ⟨kb, base, F3, rfl, h1, h2⟩
  have HC : Hid (CLS ad _ w3 kb r.2.1 (putsG (G0 200) r.1) q r.2.2 (-1)) := Lib.hid ⟨F3, P, base, c, s, _, _, _, h1, HS.out.nx.trans h2, .inr ⟨.inl (by omega), rfl⟩⟩
  have HD : Hid (r.2.2 ≤ 16) := Lib.hid (by rcases HTE.out.1 with ⟨_, _, h⟩ | ⟨_, _, h, _⟩ <;> omega)
  clear h1 h2 t0 t1 t2 b1
  go_wp2_with fail
  refine bodyPost_ret (v := .tuple #[.pointer (some ⟨kb, 0, none⟩), .slice va q.length vc, .bool true]) (by simp [results, Tryz.results24, go_sem]) rfl ?_
  rw [← HQ.out]
  exact ⟨kb, va, vc, _, r.2.1, r.2.2, _, rfl, HM2.out, HQS.out, HC.out, HTT.out, HTE.out, HD.out⟩
end Go.Proofs.YtepafbokbfcbgaaGreatDoor
namespace Go.Proofs.YtepafbokbfcbgaaGreatDoor
open Go.RowKit
attribute [local go_sem ↓] Go.wp_at_zero Go.wp_at_succ
theorem Sl.pair2 {α : Type} {F : Nat → Prop} {w : World} {sz : Nat} {enc : α → List Value} {x y : α} {b : Nat} {t : TypeId} {fz : Nat × Nat} (h : w.heap[b]? = some (.cells (enc x ++ enc y).toArray t fz)) (hx : (enc x).length = sz) (hF : ¬ F b) :
    Sl F w sz enc (.slice (some ⟨b, 0, none⟩) 2 2) [x, y] := by
  refine ⟨_, 2, rfl, Nat.le_refl _, by simp [maxLen], by simp, .inr ⟨b, 0, rfl, (Array.getElem?_eq_some_iff.1 h).1, hF, fun i z hi j u hu => ?_⟩⟩
  match i, hi with
  | 0, hi =>
    simp at hi; subst hi
    rw [cells_of_block h]
    have hj : j < (enc x).length := (List.getElem?_eq_some_iff.1 hu).1
    simp only [List.getElem?_toArray, Nat.zero_mul, Nat.zero_add, List.getElem?_append_left hj]; exact hu
  | 1, hi =>
    simp at hi; subst hi
    rw [cells_of_block h]
    simp only [List.getElem?_toArray, Nat.one_mul, Nat.zero_add]
    rw [List.getElem?_append_right (by omega)]
    rw [← hu]; congr 1; omega
/-- two short pairs. -/
def acP : List PairS := [(⟨#[97]⟩, ⟨#[]⟩), (⟨#[99]⟩, ⟨#[]⟩)]
theorem acP_tame : tameP 300 acP = acP := by decide +kernel
theorem acP_seek : seekP ⟨#[98]⟩ acP = 1 := by decide +kernel
set_option maxRecDepth 100000 in
set_option maxHeartbeats 2000000 in
theorem awake12_any {ad : Nat → Addr} {w : World} (hL : Env NoB ad w) : Calls Tryz.prog 22 #[] w fun e w' => e = .returned (.bool true) ∧ Ext w w' := by
  have HM0 : Hid (Ext w (w.alloc (.cells #[.string ⟨#[97]⟩, .string ⟨#[]⟩, .string ⟨#[99]⟩, .string ⟨#[]⟩] 98))) := Lib.hid ((Mods.refl _ w).alloc _)
  have hMD := made_any (hL.mods HM0.out.ext) acP (.slice (some ⟨w.heap.size, 0, none⟩) 2 2) (Sl.pair2 (x := ((⟨#[97]⟩, ⟨#[]⟩) : PairS)) (y := ((⟨#[99]⟩, ⟨#[]⟩) : PairS)) (heap_at rfl) rfl (fun f => f)) 0 0 (by omega) (by omega)
  rw [acP_tame] at hMD
  have HMD : Hid (Calls Tryz.prog 24 #[.agg #[.slice (some ⟨w.heap.size, 0, none⟩) 2 2, .int .u8 0, .int .u8 0]] (w.alloc (.cells #[.string ⟨#[97]⟩, .string ⟨#[]⟩, .string ⟨#[99]⟩, .string ⟨#[]⟩] 98)) (MadeR ad (w.alloc (.cells #[.string ⟨#[97]⟩, .string ⟨#[]⟩, .string ⟨#[99]⟩, .string ⟨#[]⟩] 98)) acP)) := Lib.hid hMD
  clear hL hMD
  go_enter Tryz.func22, Tryz.ntmps22
  go_wp2_with fail
  refine (HMD.out).mono ?_
  rintro e w1 ⟨kb, va, vc, w0, root, D, G, rfl, hm1, hsl, hC, hG, hT, hD⟩
  have HC := Lib.hid hC
  have HSK := Lib.hid (seek_cl hC hG hT ⟨#[98]⟩ (by decide))
  rw [acP_seek] at HSK
  have HM1 := Lib.hid (HM0.out.trans hm1)
  clear hm1 hsl hC hG hT hD
  go_wp2_with fail
  refine (HSK.out).mono ?_
  rintro e w2 ⟨rfl, hC⟩
  have HC2 := Lib.hid hC
  have HON := Lib.hid (on_clq hC (by decide) 0)
  have HKY := Lib.hid (key_cl hC (k := 1) (x := (⟨#[99]⟩, ⟨#[]⟩)) rfl rfl)
  clear hC
  go_wp2_with fail
  refine (on_cl HC2.out).mono ?_
  rintro e w3 ⟨rfl, rfl⟩
  go_wp2_with fail
  refine (HKY.out).mono ?_
  rintro e w3 ⟨rfl, k3, rfl⟩
  go_wp2_with fail
  go_ret
  exact ⟨rfl, (HM1.out.trans HC2.out.ext0).trans ((Mods.refl _ w2).drewN _)⟩
end Go.Proofs.YtepafbokbfcbgaaGreatDoor
namespace Go.Proofs.YtepafbokbfcbgaaGreatDoor
open Go.RowKit
attribute [local go_sem ↓] Go.wp_at_zero Go.wp_at_succ
end Go.Proofs.YtepafbokbfcbgaaGreatDoor
