/- The laws' pager of pages: a new disk, cache and space, each page put and marked. | The state of a law: its pager lies in a box. | ref11.chained. | The reference's leaves, step by step. Plain. | Levels and pages, while a tree is built. -/
import Derived.Test.YtepafbokbfcbgaaGreatDoorK24
import Derived.Test.YtepafbokbfcbgaaGreatDoorK31
import Derived.Test.YtepafbokbfcbgaaGreatDoorK19
import Derived.Deep.RegionHeld3
import Derived.IntWalk
import Derived.Test.YtepafbokbfcbgaaGreatDoorK21
import Derived.Deep.RegionLawGrows
namespace Go.Proofs.YtepafbokbfcbgaaGreatDoor
open Go.RowKit
section
variable {P P' F F' : Nat → Prop} {ad : Nat → Addr} {w w' : World} {c s : Nat} {G G' : GA} {l l' : List Nat}
theorem pgMark (hL : Env F ad w) (hP : ∀ k, P k → F k) (h : PgR F w P c s G l) (id : Int) :
    Calls Tryz.prog 53 #[.pointer (some ⟨s, 0, none⟩), .int .i64 id] w (PgDone F P ad w c s G (spMark l id).1 (fun F' w' e => ∃ ev, e = .returned ev ∧ ErrR F' ad w' ev (spMark l id).2)) := by
  obtain ⟨d, sb, bvs, Pd, b2, C, h1, h2, h3, h4, h5, h6, h7⟩ := h
  refine (Mark_any hL s b2 l h5 id).mono ?_
  rintro e w' ⟨ev, rfl, k1, k2, k3⟩
  obtain ⟨q1, q2⟩ := PgR.space hL hP h1 h2 h3 h4 h6 h7 k2 k3
  exact ⟨P, F, q1, q2, ev, rfl, k1⟩
end
def PagerOf (ad : Nat → Addr) (w : World) (gen : Nat) (ps : List PageA) (e : Ending) (w' : World) : Prop :=
  ∃ (c s : Nat) (P F : Nat → Prop), e = .returned (.tuple #[pgV c s gen, .bool true]) ∧ PgR F w' P c s (putsG (G0 200) ps) (marksS (spNew 200) ps) ∧ Nxt NoB P NoB F ad w w'
/-- while pages are put: behind k of them. -/
def FilS (ad : Nat → Addr) (w0 : World) (F0 : Nat → Prop) (c s : Nat) (ps : List PageA) (k : Nat) (wr : World) : Prop :=
  ∃ P F, PgR F wr P c s (putsG (G0 200) (ps.take k)) (marksS (spNew 200) (ps.take k)) ∧ Nxt NoB P F0 F ad w0 wr
set_option maxRecDepth 100000 in
set_option maxHeartbeats 2000000 in
theorem pagerOf_any {ad : Nat → Addr} {w : World} (hL : Env NoB ad w) (xs : List PgE) (pv : Value) (hp : Sl NoB w 4 encPg pv xs) (hb : ∀ x ∈ xs, Sl NoB w 1 encB (svE x) x.1.body) (hok : PutsOk 200 (xs.map (·.1))) (hlen : xs.length ≤ 1000) :
    Calls Tryz.prog 12 #[pv] w (PagerOf ad w 5 (xs.map (·.1))) := by
  have m0 : Ext w (w.alloc (.cells #[.pointer none, .pointer none, .int .u64 0] 34)) := (Mods.refl _ w).alloc _
  have HL := Lib.hid (hL.withR m0 (by simp))
  have HB0 := Lib.hid (Blk.new w #[.pointer none, .pointer none, .int .u64 0] 34)
  have HL0 := Lib.hid hL
  have HM0 := Lib.hid m0
  have HBD := Lib.hid hb
  have HOK := Lib.hid hok
  obtain ⟨la, lc, rfl, h1, h2, h3, hll⟩ := hp
  unfold maxLen at h2
  have HLL := Lib.hid hll
  clear hL m0 hb hok hll
  go_enter Tryz.func12, Tryz.ntmps12
  go_wp2_with fail
  refine (dkNew_ok 200 256 (by omega) (by omega) (by omega) (by omega)).mono ?_
  rintro e w1 ⟨d, Pd, rfl, hD, hn, hm⟩
  have HN1 := Lib.hid (Nxt.of (P := NoB) (P' := Pd) HL.out (fun _ h => h.elim) ⟨hm, fun k hk h => by have := hn k h; omega, hD.bd⟩)
  have HD := Lib.hid hD
  clear hD hn hm
  go_wp2_with fail
  refine (caNew_ok HN1.out.env (fun _ h => .inr h) HD.out 6 (by omega) (by omega)).mono ?_
  rintro e w2 ⟨c, sb, bvs, F2, rfl, hC, hN2⟩
  have HC := Lib.hid hC
  have HN2 := Lib.hid (HN1.out.trans hN2)
  clear hC hN2
  go_wp2_with fail
  refine (spNew_any 200 (by omega) (by omega)).mono ?_
  rintro e w3 ⟨s, b2, rfl, hS, h1', h2', hm3⟩
  obtain ⟨P, F, hG, hN⟩ := PgR.made (s := s) (b2 := b2) (by omega) (by omega) (q := 6) (by omega) (by omega) HC.out HN2.out hS hm3 h1' h2'
  have HS0 : Hid (FilS ad _ _ c s (xs.map (·.1)) 0 w3) := Lib.hid ⟨P, F, hG, hN⟩
  clear hS h1' h2' hm3 hG hN
  go_wp2_with fail
  go_loopg [10] xs.length (fun m v10 wr => ∃ (k : Nat), k + m = xs.length ∧ v10 = .int .i64 (k : Int) ∧ Hid (FilS ad (w.alloc (.cells #[.pointer none, .pointer none, .int .u64 0] 34)) (plusR NoB w.heap.size) c s (xs.map (·.1)) k wr))
  case atStart => exact ⟨0, by omega, rfl, HS0⟩
  case round =>
    obtain ⟨k, hkm, rfl, HS⟩ := hrel
    obtain ⟨P, F, hG, hN⟩ := HS.out
    have HG := Lib.hid hG
    have HN := Lib.hid hN
    have HEX : Hid (Ext w wr) := Lib.hid (HM0.out.trans hN.stp.mods)
    clear hG hN
    by_cases hlt : k < xs.length
    · obtain ⟨b, off, rfl, hbb, hF, hc⟩ := Sl.at HLL.out HEX.out (fun _ _ f => f.elim) k hlt
      obtain ⟨x, hx⟩ : ∃ x, xs[k]? = some x := ⟨_, List.getElem?_eq_getElem hlt⟩
      have hx' : xs[k] = x := by rw [List.getElem?_eq_getElem hlt] at hx; exact Option.some.inj hx
      rw [hx'] at hc
      obtain ⟨⟨pk, pi, pg, body⟩, ba, bn, bc⟩ := x
      have c0 : wr.cell? ⟨b, off + k * 4, none⟩ = some (.int .i64 pk) := hc 0 _ rfl
      have c1 : wr.cell? ⟨b, off + k * 4 + 1, none⟩ = some (.int .i64 pi) := hc 1 _ rfl
      have c2 : wr.cell? ⟨b, off + k * 4 + 2, none⟩ = some (.int .u64 (pg : Int)) := hc 2 _ rfl
      have c3 : wr.cell? ⟨b, off + k * 4 + 3, none⟩ = some (.slice ba bn bc) := hc 3 _ rfl
      have hpx : (xs.map (·.1))[k]? = some ⟨pk, pi, pg, body⟩ := by rw [List.getElem?_map, hx]; rfl
      have hpm := List.mem_of_getElem? hpx
      have hbS : Sl F wr 1 encB (.slice ba bn bc) body := (HBD.out _ (List.mem_of_getElem? hx)).step HEX.out (fun q hq _ hf => by
        rcases HN.out.oldF q (Nat.lt_of_lt_of_le hq HM0.out.size) hf with h | h
        · exact h
        · omega)
      have hid := HOK.out.id _ hpm
      have hsm := putsG_same ((xs.map (·.1)).take k) (G0 200)
      have HPX := Lib.hid hpx
      have HPUT := Lib.hid (pgPut HN.out.env HN.out.sub HG.out ⟨pk, pi, pg, body⟩ (.slice ba bn bc) hbS (HOK.out.gen _ hpm) ⟨by omega, by rw [hsm.1]; exact hid.2⟩ (by rw [hsm.2.1]; exact HOK.out.ok _ hpm) (by rw [hsm.2.2]; have h9 : (G0 200).cost = 0 := rfl; rw [h9]; simp only [List.length_take, List.length_map]; omega))
      unfold pageV at HPUT
      simp only at HPUT
      have HID := Lib.hid hid
      clear hc hx hx' hpx hpm hbS hid hsm
      have i1 : (0 : Int) ≤ (k : Int) := by omega
      have i2 : (k : Int) < (xs.length : Int) := by omega
      go_wp2_with fail
      refine (HPUT.out).mono ?_
      rintro e w4 ⟨P4, F4, hG4, hN4, rfl⟩
      have y1 := cellM hN4.stp.mods c1 (fun hp => by
        have := HN.out.stp.old b (by have := HM0.out.size; omega) hp
        exact this)
      have HG4 := Lib.hid hG4
      have HN4 := Lib.hid (HN.out.trans hN4)
      have HMK : Hid (spMark (marksS (spNew 200) ((xs.map (·.1)).take k)) pi = (marksS (spNew 200) ((xs.map (·.1)).take (k + 1)), none)) := Lib.hid (HOK.out.new (by omega) HPX.out)
      clear hG4 hN4 c0 c1 c2 c3
      go_wp2_with fail
      refine (pgMark HN4.out.env HN4.out.sub HG4.out pi).mono ?_
      rintro e w5 ⟨P5, F5, hG5, hN5, ev, rfl, hev⟩
      rw [HMK.out] at hG5 hev
      cases hev
      have HS5 : Hid (FilS ad (w.alloc (.cells #[.pointer none, .pointer none, .int .u64 0] 34)) (plusR NoB w.heap.size) c s (xs.map (·.1)) (k + 1) w5) := Lib.hid ⟨P5, F5, by rw [← PutsOk.put HPX.out]; exact hG5, HN4.out.trans hN5⟩
      clear hG5 hN5 y1
      go_wp2_with fail
      go_roundg (gk - 1)
      case measure => omega
      case rel => exact ⟨k + 1, by omega, by go_num, HS5⟩
    · have HT : Hid ((xs.map (·.1)).take k = xs.map (·.1)) := Lib.hid (List.take_of_length_le (by simp; omega))
      have rb := HN.out.blk HB0.out (fun f => f)
      have r0 := rb.cell (o := 0) rfl
      have r1 := rb.cell (o := 1) rfl
      have r2 := rb.cell (o := 2) rfl
      have rf := rb.frozen
      have hR : ∀ k, P k → k ≠ w.heap.size := fun k hk e => by
        subst e; exact HN.out.stp.old _ (by simp) hk
      have mR : Mods (fun k => k = w.heap.size) wr (((wr.setCell ⟨w.heap.size, 0, none⟩ (.pointer (some ⟨c, 0, none⟩))).setCell ⟨w.heap.size, 1, none⟩ (.pointer (some ⟨s, 0, none⟩))).setCell ⟨w.heap.size, 2, none⟩ (.int .u64 5)) := Mods.set3 (F := fun k => k = w.heap.size) (Mods.refl _ wr) (.inr rfl) _ _ _
      have hG4 := HG.out.plus (F' := F) mR hR (fun k hk => HN.out.grow k (.inr hk)) (fun _ _ h => h)
      rw [HT.out] at hG4
      have HG4 := Lib.hid hG4
      have HNN : Hid (Nxt NoB P NoB F ad w (((wr.setCell ⟨w.heap.size, 0, none⟩ (.pointer (some ⟨c, 0, none⟩))).setCell ⟨w.heap.size, 1, none⟩ (.pointer (some ⟨s, 0, none⟩))).setCell ⟨w.heap.size, 2, none⟩ (.int .u64 5))) := Lib.hid ⟨⟨(Mods.set3 (HM0.out.trans HN.out.stp.mods) (.inl (Nat.le_refl w.heap.size)) (.pointer (some ⟨c, 0, none⟩)) (.pointer (some ⟨s, 0, none⟩)) (.int .u64 5)), fun k hk hp => HN.out.stp.old k (Nat.lt_of_lt_of_le hk HM0.out.size) hp, fun k hk => Nat.lt_of_lt_of_le (HN.out.stp.bd k hk) mR.size⟩,
        HN.out.sub, fun _ h => h.elim, fun k hk hf => (HN.out.oldF k (Nat.lt_of_lt_of_le hk HM0.out.size) hf).elim id (fun e => by omega), HN.out.env.mods (mR.mono (fun k hk => HN.out.grow k (.inr hk)))⟩
      have HBR := Lib.hid (Blk.set3 rb (.pointer (some ⟨c, 0, none⟩)) (.pointer (some ⟨s, 0, none⟩)) (.int .u64 5))
      clear hG4 mR hR rb
      go_wp2_with fail
      refine bodyPost_ret (results_row_tmp rfl _ _ w.heap.size 34 #[.pointer (some ⟨c, 0, none⟩), .pointer (some ⟨s, 0, none⟩), .int .u64 5] _ rfl HBR.out Tryz.underlying34 rfl Tryz.pagerSize) rfl ?_
      exact ⟨c, s, P, F, rfl, HG4.out, HNN.out⟩
end Go.Proofs.YtepafbokbfcbgaaGreatDoor
namespace Go.Proofs.YtepafbokbfcbgaaGreatDoor
open Go.RowKit
theorem pgV5 (c s : Nat) : pgV c s 5 = .agg #[.pointer (some ⟨c, 0, none⟩), .pointer (some ⟨s, 0, none⟩), .int .u64 5] := rfl
structure LG (ad : Nat → Addr) (w0 w : World) (B c s gen : Nat) (P F : Nat → Prop) (G : GA) (l : List Nat) : Prop where
  pg : PgR F w P c s G l
  nx : Nxt NoB P NoB F ad w0 w
  box : Blk w B #[.pointer (some ⟨c, 0, none⟩), .pointer (some ⟨s, 0, none⟩), .int .u64 (gen : Int)] 34
  nB : ¬ P B
  nF : ¬ F B
section
variable {ad : Nat → Addr} {w0 w w' : World} {B c s gen : Nat} {P P' F F' : Nat → Prop} {G G' : GA} {l l' : List Nat}
theorem LG.env (h : LG ad w0 w B c s gen P F G l) : Env F ad w := h.nx.env
theorem LG.sub (h : LG ad w0 w B c s gen P F G l) : ∀ k, P k → F k := h.nx.sub
theorem LG.step (h : LG ad w0 w B c s gen P F G l) (n : Nxt P P' F F' ad w w') (g : PgR F' w' P' c s G' l') : LG ad w0 w' B c s gen P' F' G' l' :=
  ⟨g, h.nx.trans n, n.blk h.box h.nB, n.not h.box.lt h.nB, fun f => h.nF (n.oldF B h.box.lt f)⟩
theorem LG.ext (h : LG ad w0 w B c s gen P F G l) (m : Ext w w') : LG ad w0 w' B c s gen P F G l := h.step (Nxt.ext h.env h.sub m) (h.pg.at m)
theorem LG.drew (h : LG ad w0 w B c s gen P F G l) : LG ad w0 w.drew B c s gen P F G l := h.ext (Mods.refl _ w).drew
theorem LG.ext0 (h : LG ad w0 w B c s gen P F G l) : Ext w0 w := h.nx.stp.mods
theorem LG.c0 (h : LG ad w0 w B c s gen P F G l) : w.cell? ⟨B, 0, none⟩ = some (.pointer (some ⟨c, 0, none⟩)) := h.box.cell rfl
theorem LG.c1 (h : LG ad w0 w B c s gen P F G l) : w.cell? ⟨B, 1, none⟩ = some (.pointer (some ⟨s, 0, none⟩)) := h.box.cell rfl
theorem LG.c2 (h : LG ad w0 w B c s gen P F G l) : w.cell? ⟨B, 2, none⟩ = some (.int .u64 (gen : Int)) := h.box.cell rfl
theorem LG.start (g : PgR F w P c s G l) (n : Nxt NoB P NoB F ad w0 w) : LG ad w0 (w.alloc (.cells #[.pointer (some ⟨c, 0, none⟩), .pointer (some ⟨s, 0, none⟩), .int .u64 (gen : Int)] 34)) w.heap.size c s gen P F G l :=
  ⟨g.at ((Mods.refl _ w).alloc _), n.trans (Nxt.ext n.env n.sub ((Mods.refl _ w).alloc _)), Blk.new w _ _, fun f => by have := g.bd _ f; omega, fun f => by have := n.env.lt _ f; omega⟩
theorem LG.startZ (g : PgR F w P c s G l) (n : Nxt NoB P NoB F ad w0 w) (z : Int) (hz : z = (gen : Int)) : LG ad w0 (w.alloc (.cells #[.pointer (some ⟨c, 0, none⟩), .pointer (some ⟨s, 0, none⟩), .int .u64 z] 34)) w.heap.size c s gen P F G l := by
  subst hz; exact LG.start g n
/-- a block that is old when the law's pager comes is as it was. -/
theorem LG.old {b : Nat} {cs : Array Value} {t : TypeId} (h : LG ad w0 w B c s gen P F G l) (hb : Blk w0 b cs t) : Blk w b cs t := hb.ext h.ext0
/-- .. and what lies there reads as it did, and is left alone. -/
theorem LG.sl {α : Type} {sz : Nat} {enc : α → List Value} {v : Value} {x : List α} (h : LG ad w0 w B c s gen P F G l) (hv : Sl NoB w0 sz enc v x) : Sl F w sz enc v x :=
  hv.step h.ext0 (fun k hk _ hf => (h.nx.oldF k hk hf).elim)
/-- the state behind a call: the pager's, with what is known. -/
def LgDone (ad : Nat → Addr) (w0 : World) (B c s gen : Nat) (G : GA) (l : List Nat) (R : (Nat → Prop) → World → Ending → Prop) (e : Ending) (w' : World) : Prop :=
  ∃ P' F', LG ad w0 w' B c s gen P' F' G l ∧ R F' w' e
theorem LG.done (h : LG ad w0 w B c s gen P F G l) {R : (Nat → Prop) → World → Ending → Prop} {e : Ending} (hd : PgDone F P ad w c s G' l' R e w') : LgDone ad w0 B c s gen G' l' R e w' := by
  obtain ⟨P', F', g, n, r⟩ := hd
  exact ⟨P', F', h.step n g, r⟩
end
/-- what is known of a tree that is put on a new pager. -/
structure TreeOn (ps : List PageA) (root d : Nat) (l : List PairS) : Prop where
  tame : Tame 300 l
  puts : PutsOk 200 ps
  on : OnG (putsG (G0 200) ps) ps
  tree : TreeG (putsG (G0 200) ps) root d l
  few : ps.length ≤ 100
theorem tree_on {l : List PairS} (hT : Tame 300 l) {e k : Nat} (he : 1 ≤ e) (he3 : e ≤ 3) (hk : 2 ≤ k) (hk4 : k ≤ 4) : TreeOn (buildA 5 e k l).1 (buildA 5 e k l).2.1 (buildA 5 e k l).2.2 l := by
  have hf := hT.few 5 e k he hk
  obtain ⟨h1, h2⟩ := fit_puts (n := 200) (gen := 5) (by omega) (by omega) (build_fit 5 e k he he3 hk hk4 hT.ok (by omega)) (by omega)
  exact ⟨hT, h1, h2, tree_built hT he he3 hk hk4 h2, by omega⟩
theorem PgsR.pages {w : World} {base : Nat} {pv : Value} {xs : List PgE} (h : PgsR w base pv xs) (hl : xs.length ≤ 1000) (hb : ∀ x ∈ xs, x.1.body.length ≤ 1000) : Sl NoB w 4 encPg pv xs ∧ ∀ x ∈ xs, Sl NoB w 1 encB (svE x) x.1.body :=
  ⟨h.row.sl encPg_ok.len (by omega), fun x hx => (h.body x hx).sl encB_ok.len (by have := hb x hx; omega)⟩
theorem PutsOk.bodies {n : Nat} {ps : List PageA} (h : PutsOk n ps) : ∀ p ∈ ps, p.body.length ≤ 1000 := fun p hp => by
  have h1 := h.ok p hp
  unfold pgCheck at h1
  rw [if_neg (by decide)] at h1
  split at h1
  · cases h1
  · rename_i hc; omega
end Go.Proofs.YtepafbokbfcbgaaGreatDoor
namespace Go.Proofs.YtepafbokbfcbgaaGreatDoor
open Go.RowKit
attribute [local go_sem ↓] Go.wp_at_zero Go.wp_at_succ
theorem Tryz.entSize : (Tryz.prog.info? 131).map (·.size) = some 4 := by kernel_rfl
theorem Sl.oneN {F : Nat → Prop} {w : World} {b : Nat} {t : TypeId} {fz : Nat × Nat} {z : Int} {n : Nat} (h : w.heap[b]? = some (.cells #[.int .i64 z] t fz)) (hz : z = (n : Int)) (hF : ¬ F b) : Sl F w 1 encN (.slice (some ⟨b, 0, none⟩) 1 1) [n] := by
  subst hz
  exact Sl.one h hF
theorem Sl.cellN {F : Nat → Prop} {w : World} {a : Option Addr} {n c : Nat} {l : List Nat} (h : Sl F w 1 encN (.slice a n c) l) {j : Nat} (hj : j < l.length) : ∃ b off, a = some ⟨b, off, none⟩ ∧ ¬ F b ∧ w.cell? ⟨b, off + j, none⟩ = some (.int .i64 (l.getD j 0 : Nat)) := by
  obtain ⟨a', c', e1, _, _, _, e5⟩ := h
  injection e1 with e1 _ _
  subst e1
  obtain ⟨b, off, ha, _, hF, hc⟩ := Sl.at e5 (Mods.refl F w) (fun _ _ h => h) j hj
  refine ⟨b, off, ha, hF, ?_⟩
  have h1 := hc 0 (.int .i64 (l[j] : Int)) rfl
  have h2 : l.getD j 0 = l[j] := by simp [List.getD, hj]
  rw [h2]
  simpa using h1
theorem Sl.cellA {F : Nat → Prop} {w : World} {b off n c : Nat} {l : List Nat} (h : Sl F w 1 encN (.slice (some ⟨b, off, none⟩) n c) l) {j : Nat} (hj : j < l.length) : w.cell? ⟨b, off + j, none⟩ = some (.int .i64 (l.getD j 0 : Nat)) := by
  obtain ⟨b', off', e, _, h2⟩ := h.cellN hj
  injection e with e
  injection e with e1 e2
  subst e1 e2
  exact h2
theorem idsK_snoc (a k : Nat) : idsK a (k + 1) = idsK a k ++ [k + (a + 2)] := by
  unfold idsK
  rw [List.range_succ, List.map_append]
  rfl
theorem body_at {w : World} (v : ByteArray) (iv : Value) (ids : List Nat) (hi : Sl NoF w 1 encN iv ids) (hids : ∀ x ∈ ids, x < 4294967296) (hlen : ids.length ≤ 1000) (i : Nat) (hil : i < ids.length) (hv : i * 228 ≤ v.size) (h4096 : v.size ≤ 4096) (bd : List UInt8) (hbd : bd = leB 4 (ids.getD (i + 1) 0) ++ pieceB v.data.toList 228 i) :
    Calls Tryz.prog 126 #[.string v, iv, .int .i64 (i : Int), .int .i64 256] w fun e w' => ∃ a z c, e = .returned (.slice a z c) ∧ Own NoF w' w.heap.size 5 1 encB (.slice a z c) bd ∧ Ext w w' := by
  refine (BodyO_any v iv ids hi hids hlen i hil hv h4096).mono ?_
  rintro e w' ⟨bv, rfl, ho, hm⟩
  rw [← hbd] at ho
  obtain ⟨a, c, rfl, _⟩ := ho.form
  exact ⟨a, _, c, rfl, ho, hm⟩
/-- while a chain's Ids are told. -/
structure ChS (w w1 : World) (x : PairS) : Prop where
  ext : Ext w w1
  box : Blk w1 w.heap.size #[.string x.1, .string x.2] 98
  res : Blk w1 (w.heap.size + 1) #[.string ⟨#[]⟩, .string ⟨#[]⟩, .int .i64 0, .int .i64 0] 131
section
variable {w w' w1 w2 : World} {x : PairS} {G : Nat → Prop}
theorem ChS.step (h : ChS w w1 x) (m : Ext w1 w2) : ChS w w2 x := ⟨h.ext.trans m, h.box.ext m, h.res.ext m⟩
theorem ChS.mods (h : ChS w w1 x) (m : Mods G w1 w2) (hG : ∀ k, G k → w.heap.size + 2 ≤ k) : ChS w w2 x :=
  ⟨Mods.past h.ext (m.mono (fun k hk => by have := hG k hk; omega)), h.box.mods m (fun g => by have := hG _ g; omega), h.res.mods m (fun g => by have := hG _ g; omega)⟩
/-- an entry, and its chain's pages. -/
def Chained (w : World) (x : PairS) (id gen : Nat) (e : Ending) (w' : World) : Prop :=
  ∃ pv xs, e = .returned (.tuple #[.agg #[.string (entryA x id).key, .string (entryA x id).value, .int .i64 (entryA x id).chain, .int .i64 (entryA x id).size], pv]) ∧ PgsR w' w.heap.size pv xs ∧ xs.map (·.1) = chPages gen x id ∧ Ext w w'
set_option maxRecDepth 100000 in
set_option maxHeartbeats 1000000 in
theorem chained_any (x : PairS) (hx : x.2.size ≤ 4096) (id gen : Nat) (hid : 2 ≤ id) (hid2 : id ≤ 100000) (_hg : gen < 18446744073709551616) :
    Calls Tryz.prog 104 #[.agg #[.string x.1, .string x.2], .int .i64 (id : Int), .int .u64 (gen : Int), .int .i64 256] w (Chained w x id gen) := by
  obtain ⟨key, v⟩ := x
  simp only at hx
  have HS0 : Hid (ChS w ((w.alloc (.cells #[.string key, .string v] 98)).alloc (.cells #[.string ⟨#[]⟩, .string ⟨#[]⟩, .int .i64 0, .int .i64 0] 131)) (key, v)) := Lib.hid
    ⟨((Mods.refl _ w).alloc _).alloc _, (Blk.new w _ _).alloc _, heap_at (by simp)⟩
  by_cases hs : v.size ≤ 24
  · have hsI : (v.size : Int) ≤ 24 := by omega
    have HE : Hid (entryA (key, v) id = ⟨key, v, 0, 0⟩ ∧ chPages gen (key, v) id = []) := Lib.hid (by
      constructor
      · unfold entryA; rw [if_pos hs]
      · unfold chPages chN; rw [if_pos hs]; rfl)
    have HRB : Hid (Blk ((w.alloc (.cells #[.string key, .string v] 98)).alloc (.cells #[.string key, .string v, .int .i64 0, .int .i64 0] 131)) (w.heap.size + 1) #[.string key, .string v, .int .i64 0, .int .i64 0] 131) := Lib.hid (heap_at (by simp))
    have HMX : Hid (Ext w ((w.alloc (.cells #[.string key, .string v] 98)).alloc (.cells #[.string key, .string v, .int .i64 0, .int .i64 0] 131))) := Lib.hid (((Mods.refl _ w).alloc _).alloc _)
    clear hs
    go_enter Tryz.func104, Tryz.ntmps104
    go_wp2_with fail
    refine bodyPost_ret (results_row_tmp rfl _ _ (w.heap.size + 1) 131 #[.string key, .string v, .int .i64 0, .int .i64 0] _ rfl HRB.out Tryz.underlying131 rfl Tryz.entSize) rfl ?_
    exact ⟨_, [], by rw [HE.out.1]; rfl, PgsR.nil _ _, by rw [HE.out.2]; rfl, HMX.out⟩
  · have hsI : ¬ (v.size : Int) ≤ 24 := by omega
    obtain ⟨m, hm⟩ : ∃ m, m = ndK v.size := ⟨_, rfl⟩
    have hneed : needN (v.size : Int) 256 = (m : Int) := by rw [hm]; exact ndK_need _ (by omega)
    have hm18 : m ≤ 18 := by rw [hm]; exact ndK_le _ hx
    have HE : Hid (entryA (key, v) id = ⟨key, ⟨#[]⟩, (id : Int), (v.size : Int)⟩ ∧ chPages gen (key, v) id = (List.range m).map fun i => chPage gen v.data.toList 228 (idsK (id - 2) m) i) := Lib.hid (by
      constructor
      · unfold entryA; rw [if_neg hs]
      · unfold chPages chN; rw [if_neg hs, ← hm])
    have HFT : Hid (∀ i, i < m → i * 228 ≤ v.size) := Lib.hid (fun i hi => by
      have := (ndK_fit v.size (by omega)).left (i := i) (by rw [← hm]; exact hi)
      omega)
    have HND := Lib.hid hneed
    have HID : Hid (id - 2 + 2 = id) := Lib.hid (by omega)
    clear hneed hm
    go_enter Tryz.func104, Tryz.ntmps104
    go_wp2_with fail
    have HS1 := Lib.hid (HS0.out.step ((Mods.refl _ _).alloc (.cells #[] 3)))
    have HO1 : Hid (Own NoF (((w.alloc (.cells #[.string key, .string v] 98)).alloc (.cells #[.string ⟨#[]⟩, .string ⟨#[]⟩, .int .i64 0, .int .i64 0] 131)).alloc (.cells #[] 3)) (w.heap.size + 2) 3 1 encN (.slice (some ⟨w.heap.size + 1 + 1, 0, none⟩) 0 0) (idsK (id - 2) 0)) := Lib.hid
      (Own.made (l := ([] : List Nat)) (cur := #[]) (cap := 0) (heap_at (by simp)) (by omega) (fun f => f) (Nat.le_refl _) (by simp [maxLen]) (by simp) (by simp) (fun _ => rfl))
    go_loopg [10, 11] m (fun q v10 v11 wr => ∃ k : Nat, k + q = m ∧ v11 = .int .i64 k ∧ Hid (ChS w wr (key, v) ∧ Own NoF wr (w.heap.size + 2) 3 1 encN v10 (idsK (id - 2) k)))
    case atStart => exact ⟨0, by omega, rfl, Lib.hid ⟨HS1.out, HO1.out⟩⟩
    case round =>
      obtain ⟨k, hkq, rfl, HW⟩ := hrel
      have b1 := HW.out.1.box.cell (o := 1) (v := .string v) rfl
      by_cases hlt : k < m
      · go_wp2_with fail
        refine (need10_small _ _ _ (by omega) (by omega)).mono ?_
        rintro e w2 ⟨rfl, rfl⟩
        rw [HND.out]
        have HLK : Hid ((idsK (id - 2) k).length = k) := Lib.hid (idsK_len _ _)
        go_wp2_with (at_builtin; refine wpl_app2 Tryz.elI encN_ok rfl _ _ rfl (w.heap.size + 2) _ _ (idsK (id - 2) k) [k + (id - 2 + 2)] rfl rfl (HW.out.2.ext ((Mods.refl _ _).alloc _)) (Sl.oneN (F := NoF) (heap_at (by simp)) (by have := HID.out; omega) (fun f => f)) (by rw [HLK.out]; simp only [List.length_cons, List.length_nil]; omega) (by have := HW.out.1.res.lt; simp; omega) (fun f => f) ?_; intro a4 c4 w4 hO4 hm4 hat4)
        have HW4 := Lib.hid ((HW.out.1.step ((Mods.refl _ _).alloc (.cells #[.int .i64 ((id : Int) + (k : Int))] 3))).mods hm4 (fun g hg => (HW.out.2.lt g hg).1))
        rw [← idsK_snoc] at hO4
        have HO4 := Lib.hid hO4
        clear hO4 hm4 hat4
        go_wp2_with fail
        go_roundg (gk - 1)
        case measure => omega
        case rel => exact ⟨k + 1, by omega, by go_num, Lib.hid ⟨HW4.out, HO4.out⟩⟩
      · have hke : k = m := by omega
        subst hke
        obtain ⟨ia, ic, rfl, hic1, hic2⟩ := HW.out.2.form
        unfold maxLen at hic2
        rw [idsK_len] at HW hic1 ⊢
        go_wp2_with fail
        refine (need10_small _ _ _ (by omega) (by omega)).mono ?_
        rintro e w2 ⟨rfl, rfl⟩
        rw [HND.out]
        go_wp2_with fail
        have HW2 : Hid (ChS w (wr.alloc (.cells #[] 91)) (key, v) ∧ Own NoF (wr.alloc (.cells #[] 91)) (w.heap.size + 2) 3 1 encN (.slice ia k ic) (idsK (id - 2) k) ∧ PgsR (wr.alloc (.cells #[] 91)) (w.heap.size + 2) (.slice (some ⟨wr.heap.size, 0, none⟩) 0 0) []) := Lib.hid
          ⟨HW.out.1.step ((Mods.refl _ _).alloc _), HW.out.2.ext ((Mods.refl _ _).alloc _), ⟨Own.made (l := ([] : List PgE)) (cur := #[]) (cap := 0) (heap_at rfl) (by have := HW.out.1.res.lt; omega) (fun f => f) (Nat.le_refl _) (by simp [maxLen]) (by simp) (by simp) (fun _ => rfl), fun x hx => by simp at hx⟩⟩
        clear HW b1
        obtain ⟨wo, rfl⟩ : ∃ wo : World, wo = wr := ⟨_, rfl⟩
        go_loopg [12, 13] k (fun q v12 v13 wr => ∃ (j : Nat) (xs : List PgE), j + q = k ∧ v13 = .int .i64 j ∧ Hid (ChS w wr (key, v) ∧ Own NoF wr (w.heap.size + 2) 3 1 encN (.slice ia k ic) (idsK (id - 2) k) ∧ PgsR wr (w.heap.size + 2) v12 xs ∧ xs.map (·.1) = (List.range j).map fun i => chPage gen v.data.toList 228 (idsK (id - 2) k) i))
        case atStart => exact ⟨0, [], by omega, rfl, Lib.hid ⟨HW2.out.1, HW2.out.2.1, HW2.out.2.2, rfl⟩⟩
        case round =>
          obtain ⟨j, xs, hjq, rfl, HV⟩ := hrel
          by_cases hjt : j < k
          · have hxl : xs.length = j := by have := congrArg List.length HV.out.2.2.2; simpa using this
            have HXL := Lib.hid hxl
            have hsl := HV.out.2.1.sl encN_ok.len (by rw [idsK_len]; omega)
            obtain ⟨idj, hidj⟩ : ∃ idj, idj = (idsK (id - 2) k).getD j 0 := ⟨_, rfl⟩
            obtain ⟨ib, ioff, rfl, _, d0⟩ := hsl.cellN (j := j) (by rw [idsK_len]; exact hjt)
            rw [← hidj] at d0
            have b1 := HV.out.1.box.cell (o := 1) (v := .string v) rfl
            have HGD : Hid ((idsK (id - 2) k).getD j 0 = idj) := Lib.hid hidj.symm
            obtain ⟨bd, hbd⟩ : ∃ bd, bd = leB 4 ((idsK (id - 2) k).getD (j + 1) 0) ++ pieceB v.data.toList 228 j := ⟨_, rfl⟩
            have HBD := Lib.hid hbd
            have HBY := Lib.hid (body_at (w := wr.drew) v _ (idsK (id - 2) k) (hsl.ext (Mods.refl _ wr).drew) (fun x hx => by unfold idsK at hx; rw [List.mem_map] at hx; obtain ⟨q, hq, rfl⟩ := hx; rw [List.mem_range] at hq; have := HID.out; omega) (by rw [idsK_len]; omega) j (by rw [idsK_len]; exact hjt) (HFT.out j hjt) hx bd hbd)
            have i0 : (0 : Int) ≤ (j : Int) := by omega
            have i1 : (j : Int) < (k : Int) := by omega
            have hibX := cell_lt d0
            clear hsl hidj hbd hxl
            go_wp2_with fail
            go_region_held3 (fun w' => w'.cell? ⟨w.heap.size, 1, none⟩ = some (.string v) ∧ w'.cell? ⟨ib, ioff + j, none⟩ = some (.int .i64 (idj : Int)))
              (first | (with_reducible exact ⟨b1, d0⟩) | (with_reducible exact ⟨z0, z1⟩) | go_keep)
              (first
                | (go_at_call 126; (with_reducible refine (HBY.out).mono ?_); rintro e w3 ⟨ba, bz, bc, rfl, hOB, hm3⟩; have z0 := cellE hm3 b1; have z1 := cellE hm3 d0)
                | (refine step_app2 Tryz.elPg encPg_ok (by rfl) _ _ (by rfl) (w.heap.size + 2) _ _ xs [((⟨4, (idj : Int), gen, bd⟩, (ba, bz, bc)) : PgE)] (by rfl) (by rfl) (HV.out.2.2.1.row.ext (((Mods.refl _ wr).drew.trans hm3).alloc _)) (Sl.one (F := NoF) (heap_at (by simp)) (fun f => f)) (by rw [HXL.out]; simp only [List.length_cons, List.length_nil]; omega) (by have := HV.out.1.res.lt; have := hm3.size; simp at this ⊢; omega) (fun f => f) ?_; simp only [List.length_cons, List.length_nil, Nat.zero_add]; intro a4 c4 w4 hO4 hm4 hat4; have hC4 := ((HV.out.1.step (((Mods.refl _ wr).drew.trans hm3).alloc (.cells #[.int .i64 4, .int .i64 (idj : Int), .int .u64 (gen : Int), .slice ba bz bc] 91))).mods hm4 (fun g hg => (HV.out.2.2.1.row.lt g hg).1)); have hI4 := (HV.out.2.1.ext (((Mods.refl _ wr).drew.trans hm3).alloc (.cells #[.int .i64 4, .int .i64 (idj : Int), .int .u64 (gen : Int), .slice ba bz bc] 91))).mods hm4 (fun g hg e => HV.out.2.1.far HV.out.2.2.1.row (by decide) g hg e); have z0 := hC4.box.cell (o := 1) (v := .string v) rfl; have z1 := (hI4.sl encN_ok.len (by rw [idsK_len]; omega)).cellA (j := j) (by rw [idsK_len]; exact hjt); rw [HGD.out] at z1)
                | fail)
            have hPg := (HV.out.2.2.1.ext (((Mods.refl _ wr).drew.trans hm3).alloc (.cells #[.int .i64 4, .int .i64 (idj : Int), .int .u64 (gen : Int), .slice ba bz bc] 91))).app hm4 hO4 (fun y hy => by
              rw [List.mem_singleton.1 hy]
              exact (hOB.rebase (by have := HV.out.1.res.lt; have h9 : wr.drew.heap.size = wr.heap.size := rfl; omega)).ext ((Mods.refl _ _).alloc _))
            have HV4 : Hid (ChS w w4 (key, v) ∧ Own NoF w4 (w.heap.size + 2) 3 1 encN (.slice (some ⟨ib, ioff, none⟩) k ic) (idsK (id - 2) k) ∧ PgsR w4 (w.heap.size + 2) (.slice a4 (xs.length + 1) c4) (xs ++ [((⟨4, (idj : Int), gen, bd⟩, (ba, bz, bc)) : PgE)]) ∧ (xs ++ [((⟨4, (idj : Int), gen, bd⟩, (ba, bz, bc)) : PgE)]).map (·.1) = (List.range (j + 1)).map fun i => chPage gen v.data.toList 228 (idsK (id - 2) k) i) := Lib.hid
              ⟨hC4, hI4, hPg, by
                rw [List.map_append, HV.out.2.2.2, List.range_succ, List.map_append]
                congr 1
                rw [List.map_singleton, List.map_singleton, HBD.out]
                unfold chPage
                rw [HGD.out]⟩
            clear hC4 hI4 hPg hO4 hm4 hat4 hOB hm3 z0 z1 b1 d0
            go_wp2_with fail
            go_roundg (gk - 1)
            case measure => omega
            case rel => exact ⟨j + 1, _, by omega, by go_num, HV4⟩
          · have hje : j = k := by omega
            subst hje
            have b0 := HV.out.1.box.cell (o := 0) (v := .string key) rfl
            have b1 := HV.out.1.box.cell (o := 1) (v := .string v) rfl
            have r0 := HV.out.1.res.cell (o := 0) (v := .string ⟨#[]⟩) rfl
            have r1 := HV.out.1.res.cell (o := 1) (v := .string ⟨#[]⟩) rfl
            have r2 := HV.out.1.res.cell (o := 2) (v := .int .i64 0) rfl
            have r3 := HV.out.1.res.cell (o := 3) (v := .int .i64 0) rfl
            have rf := HV.out.1.res.frozen
            have HRB := Lib.hid (HV.out.1.res.set4 (.string key) (.string ⟨#[]⟩) (.int .i64 (id : Int)) (.int .i64 (v.size : Int)))
            have HMR := Lib.hid (Mods.set4 (F := fun k => k = w.heap.size + 1) (Mods.refl _ wr) (R := w.heap.size + 1) (.inr rfl) (.string key) (.string ⟨#[]⟩) (.int .i64 (id : Int)) (.int .i64 (v.size : Int)))
            have HMX := Lib.hid (Mods.set4 HV.out.1.ext (R := w.heap.size + 1) (.inl (by omega)) (.string key) (.string ⟨#[]⟩) (.int .i64 (id : Int)) (.int .i64 (v.size : Int)))
            go_wp2_with fail
            refine bodyPost_ret (results_row_tmp rfl _ _ (w.heap.size + 1) 131 #[.string key, .string ⟨#[]⟩, .int .i64 (id : Int), .int .i64 (v.size : Int)] _ rfl HRB.out Tryz.underlying131 rfl Tryz.entSize) rfl ?_
            exact ⟨_, xs, by rw [HE.out.1]; rfl, (HV.out.2.2.1.blk HV.out.1.res HMR.out (by decide) (by decide)).rebase (by omega), by rw [HV.out.2.2.2, HE.out.2], HMX.out⟩
end
end Go.Proofs.YtepafbokbfcbgaaGreatDoor
namespace Go.Proofs.YtepafbokbfcbgaaGreatDoor
open Go.RowKit
theorem chunkA_snoc (gen : Nat) : ∀ (c : List PairS) (x : PairS) (id : Nat), chunkA gen (c ++ [x]) id = ((chunkA gen c id).1 ++ [entryA x (id + (chunkA gen c id).2.length)], (chunkA gen c id).2 ++ chPages gen x (id + (chunkA gen c id).2.length))
  | [], x, id => by simp [chunkA]
  | y :: c, x, id => by
    have h := chunkA_snoc gen c x (id + chN y)
    rw [List.cons_append, chunkA, h, chunkA]
    simp only [List.length_append, chPages_len, List.cons_append, List.append_assoc, Nat.add_assoc]
theorem chunkA_take (gen : Nat) (c : List PairS) (j : Nat) (x : PairS) (id : Nat) (h : c[j]? = some x) : chunkA gen (c.take (j + 1)) id = ((chunkA gen (c.take j) id).1 ++ [entryA x (id + (chunkA gen (c.take j) id).2.length)], (chunkA gen (c.take j) id).2 ++ chPages gen x (id + (chunkA gen (c.take j) id).2.length)) := by
  rw [take_one _ _ _ h, chunkA_snoc]
theorem chPages_few (gen : Nat) {x : PairS} (h : x.2.size ≤ 4096) (id : Nat) : (chPages gen x id).length ≤ 18 := by
  rw [chPages_len]
  unfold chN
  split
  · omega
  · exact ndK_le _ h
theorem chunkA_few (gen : Nat) : ∀ (c : List PairS) (id : Nat), (∀ x ∈ c, x.2.size ≤ 4096) → (chunkA gen c id).2.length ≤ 18 * c.length
  | [], _, _ => by simp [chunkA]
  | x :: c, id, h => by
    have h1 := chunkA_few gen c (id + chN x) (fun y hy => h y (List.mem_cons_of_mem _ hy))
    have h2 := chPages_few gen (h x List.mem_cons_self) id
    rw [chunkA, List.length_append, List.length_cons]
    omega
theorem leavesA_nil (gen many f id : Nat) : leavesA gen many f [] id = ([], []) := by cases f <;> rfl
theorem leavesA_step (gen many f : Nat) (x : PairS) (l : List PairS) (id : Nat) : leavesA gen many (f + 1) (x :: l) id = ((id, x.1) :: (leavesA gen many f ((x :: l).drop many) (id + (leafPages gen ((x :: l).take many) id).length)).1, leafPages gen ((x :: l).take many) id ++ (leavesA gen many f ((x :: l).drop many) (id + (leafPages gen ((x :: l).take many) id).length)).2) := rfl
theorem entryA_small {x : PairS} (hk : keyB x.1 = true) (hs : x.2.size ≤ 4096) {id : Nat} (hid : id < 4294967296) : (entryA x id).key.size < 256 ∧ (entryA x id).value.size < 256 ∧ 0 ≤ (entryA x id).chain ∧ (entryA x id).chain < 4294967296 ∧ 0 ≤ (entryA x id).size ∧ (entryA x id).size < 4294967296 := by
  have := (keyB_iff x.1).1 hk
  unfold entryA
  split
  · simp only; omega
  · simp only
    refine ⟨by omega, by show (0 : Nat) < 256; omega, by omega, by omega, by omega, by omega⟩
theorem entryA_len {x : PairS} (hk : keyB x.1 = true) (id : Nat) (hid : 0 < id) : (bytesE (entryA x id)).length ≤ 59 := by
  have := (keyB_iff x.1).1 hk
  unfold entryA bytesE
  split
  · simp only [if_true, List.length_append, bytesT_len, leB_length]; omega
  · simp only
    rw [if_neg (by omega)]
    simp only [List.length_append, bytesT_len, leB_length]; omega
theorem chunkA_mem (gen : Nat) : ∀ (c : List PairS) (id : Nat) (e : EntryA), (∀ x ∈ c, x.2.size ≤ 4096) → e ∈ (chunkA gen c id).1 → ∃ x ∈ c, ∃ id', id ≤ id' ∧ id' ≤ id + 18 * c.length ∧ e = entryA x id'
  | [], _, _, _, h => by simp [chunkA] at h
  | x :: c, id, e, hs, h => by
    rw [chunkA] at h
    rcases List.mem_cons.1 h with rfl | h
    · exact ⟨x, List.mem_cons_self, id, by omega, by omega, rfl⟩
    · obtain ⟨y, hy, id', h1, h2, h3⟩ := chunkA_mem gen c _ e (fun y hy => hs y (List.mem_cons_of_mem _ hy)) h
      have h4 := chPages_few gen (hs x List.mem_cons_self) id
      rw [chPages_len] at h4
      exact ⟨y, List.mem_cons_of_mem _ hy, id', by omega, by rw [List.length_cons]; omega, h3⟩
/-- the leaf of a chunk. -/
def leafN (gen : Nat) (c : List PairS) (id : Nat) : NodeA := ⟨true, (chunkA gen c (id + 1)).1, [], []⟩
theorem leafN_ok (gen : Nat) {c : List PairS} (hk : PairsOk c) (hc : c.length ≤ 1000) (id : Nat) (hid : id ≤ 1000000) : okB (leafN gen c id) ∧ (bytesN (leafN gen c id)).length ≤ 100000 := by
  have hl : (leafN gen c id).leaf = true := rfl
  have hen : (leafN gen c id).entries.length = c.length := chunkA_len gen c (id + 1)
  have hm : ∀ e ∈ (leafN gen c id).entries, ∃ x ∈ c, ∃ id', id + 1 ≤ id' ∧ id' ≤ id + 1 + 18 * c.length ∧ e = entryA x id' := fun e he => chunkA_mem gen c (id + 1) e (fun x hx => (hk x hx).2) he
  constructor
  · unfold okB
    rw [if_pos hl]
    refine ⟨by omega, fun k e he => ?_⟩
    obtain ⟨x, hx, id', h1, h2, rfl⟩ := hm e (List.mem_of_getElem? he)
    exact entryA_small (hk x hx).1 (hk x hx).2 (by omega)
  · have h1 := flat_len bytesE 59 (leafN gen c id).entries (fun e he => by
      obtain ⟨x, hx, id', h1, h2, rfl⟩ := hm e he
      exact entryA_len (hk x hx).1 id' (by omega))
    unfold bytesN
    rw [if_pos hl, List.length_append, leB_length]
    omega
end Go.Proofs.YtepafbokbfcbgaaGreatDoor
namespace Go.Proofs.YtepafbokbfcbgaaGreatDoor
open Go.RowKit
/-- a level's Ids and first keys, and pages, while they are told. -/
structure LvH (G0 : Nat → Prop) (w wr : World) (R L pb : Nat) (is : List Nat) (fs : List ByteArray) (xs : List PgE) (vi vf s1 s2 pv : Value) : Prop where
  mods : Mods G0 w wr
  lR : w.heap.size ≤ R
  hRL : R < L
  res : Blk wr R #[.slice none 0 0, .slice none 0 0] 154
  lev : Blk wr L #[s1, s2] 154
  ids : Own NoF wr (L + 1) 3 1 encN vi is
  fst : Own NoF wr (L + 1) 9 1 encS vf fs
  pg : PgsR wr pb pv xs
  pgo : ∀ g, pv.ownBlock = some g → G0 g ∨ w.heap.size ≤ g
section
variable {G0 : Nat → Prop} {w wr w2 : World} {R L pb : Nat} {is is' : List Nat} {fs fs' : List ByteArray} {xs xs' : List PgE} {vi vf s1 s2 pv vi' vf' pv' t1 t2 : Value}
theorem LvH.ext (h : LvH G0 w wr R L pb is fs xs vi vf s1 s2 pv) (m : Ext wr w2) : LvH G0 w w2 R L pb is fs xs vi vf s1 s2 pv :=
  ⟨h.mods.trans m.ext, h.lR, h.hRL, h.res.ext m, h.lev.ext m, h.ids.ext m, h.fst.ext m, h.pg.ext m, h.pgo⟩
theorem LvH.drew (h : LvH G0 w wr R L pb is fs xs vi vf s1 s2 pv) : LvH G0 w wr.drew R L pb is fs xs vi vf s1 s2 pv := h.ext (Mods.refl _ wr).drew
theorem LvH.pages (h : LvH G0 w wr R L pb is fs xs vi vf s1 s2 pv) (m : Mods (fun k => pv.ownBlock = some k) wr w2) (g : PgsR w2 pb pv' xs') (hat : ∀ g, pv'.ownBlock = some g → pv.ownBlock = some g ∨ w.heap.size ≤ g) : LvH G0 w w2 R L pb is fs xs' vi vf s1 s2 pv' :=
  ⟨h.mods.trans' m (fun i hi e => (h.pgo i e).elim id (fun e => by omega)), h.lR, h.hRL, h.res.mods m (fun e => Own.notB h.pg.row h.res (by decide) _ e rfl), h.lev.mods m (fun e => Own.notB h.pg.row h.lev (by decide) _ e rfl),
    h.ids.mods m (fun g hg e => h.ids.far h.pg.row (by decide) g hg e), h.fst.mods m (fun g hg e => h.fst.far h.pg.row (by decide) g hg e), g, fun k hk => (hat k hk).elim (h.pgo k) .inr⟩
theorem LvH.appI (h : LvH G0 w wr R L pb is fs xs vi vf s1 s2 pv) (m : Mods (fun k => vi.ownBlock = some k) wr w2) (o : Own NoF w2 (L + 1) 3 1 encN vi' is') : LvH G0 w w2 R L pb is' fs xs vi' vf s1 s2 pv :=
  ⟨h.mods.trans' m (fun i hi e => by have := (h.ids.lt i e).1; have := h.lR; have := h.hRL; omega), h.lR, h.hRL, h.res.mods m (fun e => Own.notB h.ids h.res (by decide) _ e rfl), h.lev.mods m (fun e => Own.notB h.ids h.lev (by decide) _ e rfl), o,
    h.fst.mods m (fun g hg e => h.fst.far h.ids (by decide) g hg e), h.pg.other h.ids m (by decide) (by decide), h.pgo⟩
theorem LvH.appF (h : LvH G0 w wr R L pb is fs xs vi vf s1 s2 pv) (m : Mods (fun k => vf.ownBlock = some k) wr w2) (o : Own NoF w2 (L + 1) 9 1 encS vf' fs') : LvH G0 w w2 R L pb is fs' xs vi vf' s1 s2 pv :=
  ⟨h.mods.trans' m (fun i hi e => by have := (h.fst.lt i e).1; have := h.lR; have := h.hRL; omega), h.lR, h.hRL, h.res.mods m (fun e => Own.notB h.fst h.res (by decide) _ e rfl), h.lev.mods m (fun e => Own.notB h.fst h.lev (by decide) _ e rfl),
    h.ids.mods m (fun g hg e => h.ids.far h.fst (by decide) g hg e), o, h.pg.other h.fst m (by decide) (by decide), h.pgo⟩
/-- a field of the level is stored. -/
theorem LvH.put (h : LvH G0 w wr R L pb is fs xs vi vf s1 s2 pv) (i : Nat) (v : Value) (e : (#[s1, s2] : Array Value).setIfInBounds i v = #[t1, t2]) : LvH G0 w (wr.setCell ⟨L, i, none⟩ v) R L pb is fs xs vi vf t1 t2 pv := by
  have m : Mods (fun k => k = L) wr (wr.setCell ⟨L, i, none⟩ v) := Mods.at _ wr _ i v rfl
  have hn := h.lev.set i v
  rw [e] at hn
  have h1 := h.lR
  have h2 := h.hRL
  exact ⟨h.mods.trans' m (fun i hi e => by omega), h.lR, h.hRL, h.res.mods m (by omega), hn, h.ids.mods m (fun g hg => by have := h.ids.lt g hg; omega), h.fst.mods m (fun g hg => by have := h.fst.lt g hg; omega), h.pg.blk h.lev m (by decide) (by decide), h.pgo⟩
/-- a block of the call's own, of another type, turns. -/
theorem LvH.blk (h : LvH G0 w wr R L pb is fs xs vi vf s1 s2 pv) {B : Nat} {c : Array Value} {t : TypeId} (hB : Blk wr B c t) (m : Mods (fun k => k = B) wr w2) (h0 : L < B) (h1 : t ≠ 91) (h2 : t ≠ 5) (h3 : t ≠ 3) (h4 : t ≠ 9) : LvH G0 w w2 R L pb is fs xs vi vf s1 s2 pv := by
  have h5 := h.lR
  have h6 := h.hRL
  exact ⟨h.mods.trans' m (fun i hi e => by omega), h.lR, h.hRL, h.res.mods m (by omega), h.lev.mods m (by omega), h.ids.mods m (fun g hg e => Own.notB h.ids hB h3 g hg e), h.fst.mods m (fun g hg e => Own.notB h.fst hB h4 g hg e), h.pg.blk hB m h1 h2, h.pgo⟩
/-- a row of entries turns. -/
theorem LvH.rowE (h : LvH G0 w wr R L pb is fs xs vi vf s1 s2 pv) {b2 : Nat} {v : Value} {es : List EntryA} (ho : Own NoF wr b2 131 4 encE v es) (hb : w.heap.size ≤ b2) (m : Mods (fun k => v.ownBlock = some k) wr w2) : LvH G0 w w2 R L pb is fs xs vi vf s1 s2 pv :=
  ⟨h.mods.trans' m (fun i hi e => by have := (ho.lt i e).1; omega), h.lR, h.hRL, h.res.mods m (fun e => Own.notB ho h.res (by decide) _ e rfl), h.lev.mods m (fun e => Own.notB ho h.lev (by decide) _ e rfl), h.ids.mods m (fun g hg e => h.ids.far ho (by decide) g hg e), h.fst.mods m (fun g hg e => h.fst.far ho (by decide) g hg e), h.pg.other ho m (by decide) (by decide), h.pgo⟩
end
end Go.Proofs.YtepafbokbfcbgaaGreatDoor
