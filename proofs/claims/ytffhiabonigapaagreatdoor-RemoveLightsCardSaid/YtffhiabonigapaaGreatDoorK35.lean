/- Pages as a row of the call's own, each with its body. Over any program but for the types' numbers. | The laws' pager of pages: a new disk, cache and space, each page put and marked. | The state of a law: its pager lies in a box. | law13.awake. | InsertRefuses holds. -/
import Derived.Test.YtffhiabonigapaaGreatDoorK31
import Derived.Test.YtffhiabonigapaaGreatDoorK27
import Derived.Test.YtffhiabonigapaaGreatDoorK21
import Derived.Test.YtffhiabonigapaaGreatDoorK29
import Derived.Test.YtffhiabonigapaaGreatDoorK34
import Derived.Test.YtffhiabonigapaaGreatDoorK20
import Derived.Test.YtffhiabonigapaaGreatDoorK24
import Derived.Deep.RegionHeld3
namespace Go.Proofs.YtffhiabonigapaaGreatDoor
open Go.RowKit
/-- a page, and where its body lies. -/
abbrev PgE := PageA × (Option Addr × Nat × Nat)
def svE (x : PgE) : Value := .slice x.2.1 x.2.2.1 x.2.2.2
def encPg (x : PgE) : List Value := [.int .i64 x.1.kind, .int .i64 x.1.id, .int .u64 (x.1.gen : Int), svE x]
theorem encPg_ok : EncOk encPg 4 := ⟨fun _ => rfl, by intro x u hu; simp [encPg, svE] at hu; rcases hu with rfl | rfl | rfl | rfl <;> rfl⟩
theorem Tryz.mkPg : (Tryz.prog.info? 127).map (fun i => (i.zero, i.size, i.bytes)) = some (some (.agg #[.int .i64 0, .int .i64 0, .int .u64 0, .slice none 0 0]), 4, 48) := by kernel_rfl
theorem flat_set {α : Type} {enc : α → List Value} {sz : Nat} (henc : ∀ x, (enc x).length = sz) : ∀ (l : List α) (i : Nat) (x x' : α) (j : Nat) (u : Value), l[i]? = some x → j < sz → (enc x).set j u = enc x' → (l.set i x').flatMap enc = (l.flatMap enc).set (i * sz + j) u
  | [], i, x, x', j, u, h, _, _ => by simp at h
  | y :: l, 0, x, x', j, u, h, hj, he => by
    simp at h; subst h
    rw [List.set_cons_zero, List.flatMap_cons, List.flatMap_cons, Nat.zero_mul, Nat.zero_add, ← he, List.set_append_left _ _ (by rw [henc]; exact hj)]
  | y :: l, i + 1, x, x', j, u, h, hj, he => by
    rw [List.set_cons_succ, List.flatMap_cons, List.flatMap_cons, flat_set henc l i x x' j u (by simpa using h) hj he, List.set_append_right _ _ (by rw [henc, Nat.add_mul]; omega), henc]
    congr 2
    rw [Nat.add_mul]; omega
/-- a cell of a row's element is stored. -/
theorem Own.set {α : Type} {F : Nat → Prop} {w : World} {base : Nat} {e : TypeId} {sz : Nat} {enc : α → List Value} {g n c : Nat} {l : List α} (h : Own F w base e sz enc (.slice (some ⟨g, 0, none⟩) n c) l) (henc : ∀ x, (enc x).length = sz) {i j : Nat} {x x' : α} {u : Value} (hx : l[i]? = some x) (hj : j < sz) (he : (enc x).set j u = enc x') :
    Own F (w.setCell ⟨g, i * sz + j, none⟩ u) base e sz enc (.slice (some ⟨g, 0, none⟩) n c) (l.set i x') := by
  refine ⟨?_, h.2⟩
  rcases h.1.2 with ⟨h0, _⟩ | ⟨g', cap, cur, h0, hb, hg, h1, h2, h3, h4⟩
  · cases h0
  · injection h0 with h0 h0n h0c
    injection h0 with h0
    injection h0 with h0
    subst h0 h0c h0n
    refine ⟨by rw [flatMap_len henc], .inr ⟨g, c, cur.setIfInBounds (i * sz + j) u, by rw [List.length_set], hb, heap_setCell_same w g _ cur e u hg, by rw [List.length_set]; exact h1, h2, by simpa using h3, ?_⟩⟩
    rw [flat_set henc l i x x' j u hx hj he, ← h4, List.length_set]
    simp [List.take_set]
structure PgsR (w : World) (base : Nat) (pv : Value) (xs : List PgE) : Prop where
  row : Own NoF w base 127 4 encPg pv xs
  body : ∀ x ∈ xs, Own NoF w base 5 1 encB (svE x) x.1.body
section
variable {w w' : World} {base : Nat} {pv pv' : Value} {xs ys : List PgE}
theorem PgsR.nil (w : World) (base : Nat) : PgsR w base (.slice none 0 0) [] := ⟨Own.nil _ _ _ _ _ _, fun x h => by simp at h⟩
theorem PgsR.ext (h : PgsR w base pv xs) (m : Ext w w') : PgsR w' base pv xs := ⟨h.row.ext m, fun x hx => (h.body x hx).ext m⟩
theorem PgsR.rebase (h : PgsR w base pv xs) {base' : Nat} (hb : base' ≤ base) : PgsR w base' pv xs := ⟨h.row.rebase hb, fun x hx => (h.body x hx).rebase hb⟩
theorem PgsR.mods (h : PgsR w base pv xs) {G : Nat → Prop} (m : Mods G w w') (hr : ∀ g, pv.ownBlock = some g → ¬ G g) (hb : ∀ x ∈ xs, ∀ g, (svE x).ownBlock = some g → ¬ G g) : PgsR w' base pv xs :=
  ⟨h.row.mods m hr, fun x hx => (h.body x hx).mods m (hb x hx)⟩
/-- another row of another type turns. -/
theorem PgsR.other {α : Type} {F : Nat → Prop} {b2 : Nat} {e : TypeId} {sz : Nat} {enc : α → List Value} {v : Value} {l : List α} (h : PgsR w base pv xs) (ho : Own F w b2 e sz enc v l) (m : Mods (fun k => v.ownBlock = some k) w w') (h1 : 127 ≠ e) (h2 : 5 ≠ e) : PgsR w' base pv xs :=
  h.mods m (fun g hg e2 => h.row.far ho h1 g hg e2) (fun x hx g hg e2 => (h.body x hx).far ho h2 g hg e2)
theorem PgsR.blk (h : PgsR w base pv xs) {B : Nat} {c : Array Value} {t : TypeId} (hB : Blk w B c t) (m : Mods (fun k => k = B) w w') (h1 : t ≠ 127) (h2 : t ≠ 5) : PgsR w' base pv xs :=
  h.mods m (fun g hg e => Own.notB h.row hB h1 g hg e) (fun x hx g hg e => Own.notB (h.body x hx) hB h2 g hg e)
theorem PgsR.app (h : PgsR w base pv xs) (m : Mods (fun k => pv.ownBlock = some k) w w') (ho : Own NoF w' base 127 4 encPg pv' (xs ++ ys)) (hy : ∀ y ∈ ys, Own NoF w base 5 1 encB (svE y) y.1.body) : PgsR w' base pv' (xs ++ ys) :=
  ⟨ho, fun x hx => by
    rcases List.mem_append.1 hx with hx | hx
    · exact (h.body x hx).mods m (fun g hg e => (h.body x hx).far h.row (by decide) g hg e)
    · exact (hy x hx).mods m (fun g hg e => (hy x hx).far h.row (by decide) g hg e)⟩
end
end Go.Proofs.YtffhiabonigapaaGreatDoor
namespace Go.Proofs.YtffhiabonigapaaGreatDoor
open Go.RowKit
section
variable {P P' F F' : Nat → Prop} {ad : Nat → Addr} {w w' : World} {c s : Nat} {G G' : GA} {l l' : List Nat}
end
def PagerOf (ad : Nat → Addr) (w : World) (gen : Nat) (ps : List PageA) (e : Ending) (w' : World) : Prop :=
  ∃ (c s : Nat) (P F : Nat → Prop), e = .returned (.tuple #[pgV c s gen, .bool true]) ∧ PgR F w' P c s (putsG (G0 200) ps) (marksS (spNew 200) ps) ∧ Nxt NoB P NoB F ad w w'
/-- while pages are put: behind k of them. -/
def FilS (ad : Nat → Addr) (w0 : World) (F0 : Nat → Prop) (c s : Nat) (ps : List PageA) (k : Nat) (wr : World) : Prop :=
  ∃ P F, PgR F wr P c s (putsG (G0 200) (ps.take k)) (marksS (spNew 200) (ps.take k)) ∧ Nxt NoB P F0 F ad w0 wr
end Go.Proofs.YtffhiabonigapaaGreatDoor
namespace Go.Proofs.YtffhiabonigapaaGreatDoor
open Go.RowKit
theorem pgV5 (c s : Nat) : pgV c s 5 = .agg #[.pointer (some ⟨c, 0, none⟩), .pointer (some ⟨s, 0, none⟩), .int .u64 5] := rfl
structure LG (ad : Nat → Addr) (w0 w : World) (B c s gen : Nat) (P F : Nat → Prop) (G : GA) (l : List Nat) : Prop where
  pg : PgR F w P c s G l
  nx : Nxt NoB P NoB F ad w0 w
  box : Blk w B #[.pointer (some ⟨c, 0, none⟩), .pointer (some ⟨s, 0, none⟩), .int .u64 (gen : Int)] 44
  nB : ¬ P B
  nF : ¬ F B
section
variable {ad : Nat → Addr} {w0 w w' : World} {B c s gen : Nat} {P P' F F' : Nat → Prop} {G G' : GA} {l l' : List Nat}
theorem LG.env (h : LG ad w0 w B c s gen P F G l) : Env F ad w := h.nx.env
theorem LG.sub (h : LG ad w0 w B c s gen P F G l) : ∀ k, P k → F k := h.nx.sub
theorem LG.step (h : LG ad w0 w B c s gen P F G l) (n : Nxt P P' F F' ad w w') (g : PgR F' w' P' c s G' l') : LG ad w0 w' B c s gen P' F' G' l' :=
  ⟨g, h.nx.trans n, n.blk h.box h.nB, n.not h.box.lt h.nB, fun f => h.nF (n.oldF B h.box.lt f)⟩
theorem LG.ext (h : LG ad w0 w B c s gen P F G l) (m : Ext w w') : LG ad w0 w' B c s gen P F G l := h.step (Nxt.ext h.env h.sub m) (h.pg.at m)
theorem LG.drew (h : LG ad w0 w B c s gen P F G l) : LG ad w0 w.drew B c s gen P F G l := h.ext (Mods.refl _ w).drew
theorem LG.ext0 (h : LG ad w0 w B c s gen P F G l) : Ext w0 w := h.nx.stp.mods
theorem LG.c0 (h : LG ad w0 w B c s gen P F G l) : w.cell? ⟨B, 0, none⟩ = some (.pointer (some ⟨c, 0, none⟩)) := h.box.cell rfl
theorem LG.c1 (h : LG ad w0 w B c s gen P F G l) : w.cell? ⟨B, 1, none⟩ = some (.pointer (some ⟨s, 0, none⟩)) := h.box.cell rfl
theorem LG.c2 (h : LG ad w0 w B c s gen P F G l) : w.cell? ⟨B, 2, none⟩ = some (.int .u64 (gen : Int)) := h.box.cell rfl
theorem LG.start (g : PgR F w P c s G l) (n : Nxt NoB P NoB F ad w0 w) : LG ad w0 (w.alloc (.cells #[.pointer (some ⟨c, 0, none⟩), .pointer (some ⟨s, 0, none⟩), .int .u64 (gen : Int)] 44)) w.heap.size c s gen P F G l :=
  ⟨g.at ((Mods.refl _ w).alloc _), n.trans (Nxt.ext n.env n.sub ((Mods.refl _ w).alloc _)), Blk.new w _ _, fun f => by have := g.bd _ f; omega, fun f => by have := n.env.lt _ f; omega⟩
theorem LG.startZ (g : PgR F w P c s G l) (n : Nxt NoB P NoB F ad w0 w) (z : Int) (hz : z = (gen : Int)) : LG ad w0 (w.alloc (.cells #[.pointer (some ⟨c, 0, none⟩), .pointer (some ⟨s, 0, none⟩), .int .u64 z] 44)) w.heap.size c s gen P F G l := by
  subst hz; exact LG.start g n
/-- a block that is old when the law's pager comes is as it was. -/
theorem LG.old {b : Nat} {cs : Array Value} {t : TypeId} (h : LG ad w0 w B c s gen P F G l) (hb : Blk w0 b cs t) : Blk w b cs t := hb.ext h.ext0
/-- .. and what lies there reads as it did, and is left alone. -/
theorem LG.sl {α : Type} {sz : Nat} {enc : α → List Value} {v : Value} {x : List α} (h : LG ad w0 w B c s gen P F G l) (hv : Sl NoB w0 sz enc v x) : Sl F w sz enc v x :=
  hv.step h.ext0 (fun k hk _ hf => (h.nx.oldF k hk hf).elim)
/-- the state behind a call: the pager's, with what is known. -/
def LgDone (ad : Nat → Addr) (w0 : World) (B c s gen : Nat) (G : GA) (l : List Nat) (R : (Nat → Prop) → World → Ending → Prop) (e : Ending) (w' : World) : Prop :=
  ∃ P' F', LG ad w0 w' B c s gen P' F' G l ∧ R F' w' e
theorem LG.done (h : LG ad w0 w B c s gen P F G l) {R : (Nat → Prop) → World → Ending → Prop} {e : Ending} (hd : PgDone F P ad w c s G' l' R e w') : LgDone ad w0 B c s gen G' l' R e w' := by
  obtain ⟨P', F', g, n, r⟩ := hd
  exact ⟨P', F', h.step n g, r⟩
end
/-- what is known of a tree that is put on a new pager. -/
structure TreeOn (ps : List PageA) (root d : Nat) (l : List PairS) : Prop where
  tame : Tame 300 l
  puts : PutsOk 200 ps
  on : OnG (putsG (G0 200) ps) ps
  tree : TreeG (putsG (G0 200) ps) root d l
  few : ps.length ≤ 100
theorem tree_on {l : List PairS} (hT : Tame 300 l) {e k : Nat} (he : 1 ≤ e) (he3 : e ≤ 3) (hk : 2 ≤ k) (hk4 : k ≤ 4) : TreeOn (buildA 5 e k l).1 (buildA 5 e k l).2.1 (buildA 5 e k l).2.2 l := by
  have hf := hT.few 5 e k he hk
  obtain ⟨h1, h2⟩ := fit_puts (n := 200) (gen := 5) (by omega) (by omega) (build_fit 5 e k he he3 hk hk4 hT.ok (by omega)) (by omega)
  exact ⟨hT, h1, h2, tree_built hT he he3 hk hk4 h2, by omega⟩
theorem PgsR.pages {w : World} {base : Nat} {pv : Value} {xs : List PgE} (h : PgsR w base pv xs) (hl : xs.length ≤ 1000) (hb : ∀ x ∈ xs, x.1.body.length ≤ 1000) : Sl NoB w 4 encPg pv xs ∧ ∀ x ∈ xs, Sl NoB w 1 encB (svE x) x.1.body :=
  ⟨h.row.sl encPg_ok.len (by omega), fun x hx => (h.body x hx).sl encB_ok.len (by have := hb x hx; omega)⟩
theorem PutsOk.bodies {n : Nat} {ps : List PageA} (h : PutsOk n ps) : ∀ p ∈ ps, p.body.length ≤ 1000 := fun p hp => by
  have h1 := h.ok p hp
  unfold pgCheck at h1
  rw [if_neg (by decide)] at h1
  split at h1
  · cases h1
  · rename_i hc; omega
end Go.Proofs.YtffhiabonigapaaGreatDoor
namespace Go.Proofs.YtffhiabonigapaaGreatDoor
open Go.RowKit
attribute [local go_sem ↓] Go.wp_at_zero Go.wp_at_succ
theorem low_new (n : Nat) (h : 8 ≤ n) : LowL (spNew n) := by
  rw [spK_zero n (by omega)]
  exact ⟨by rw [spK_get n 0 0 (by omega)]; rfl, by rw [spK_get n 0 1 (by omega)]; rfl⟩
theorem free_new (n : Nat) (h : 8 ≤ n) : spFree (spNew n) = some 2 := by
  rw [spK_zero n (by omega), spK_free n 0 (by omega), if_pos (by omega)]
theorem len_new (n : Nat) (h : 8 ≤ n) : (spNew n).length = n := by
  rw [spK_zero n (by omega), spK_len n 0 (by omega)]
theorem down_total {G : GA} (h : G.total) (l : List Nat) (gen : Nat) (n : NodeA) : (downG G l gen 0 n).total := by
  unfold downG
  split
  · exact h
  · unfold placeG
    rw [if_pos (.inl rfl)]
    exact put_total h _
/-- the node that was put down. -/
theorem down_node {G : GA} {l : List Nat} {gen i : Nat} {n : NodeA} (hd : downI G l 0 n = some i) (hi : i < G.blocks) : (downG G l gen 0 n).node i = some n := by
  have hr := (downI_ok hd).1
  have hv : (downG G l gen 0 n).view i = some (.inl ⟨kindA n, (i : Int), gen, bytesN n⟩) := by
    unfold downG
    rw [hd]
    simp only
    rw [put_view, if_pos (by simp)]
  unfold GA.node
  rw [(downG_lim G l gen 0 n).2.1, if_pos hi, hv]
  simp only
  have hdec : decodeA ⟨kindA n, (i : Int), gen, bytesN n⟩ = .inl n := by
    unfold decodeA kindA
    cases hl : n.leaf with
    | true =>
      have := (getN_iff true (bytesN n) n).2 ⟨hr, hl, rfl⟩
      simp [this]
    | false =>
      have := (getN_iff false (bytesN n) n).2 ⟨hr, hl, rfl⟩
      simp [this]
  rw [hdec]
theorem down0_some {G : GA} {l : List Nat} {i : Nat} {key v : ByteArray} (hk : keyB key = true) (hv : v.size ≤ 24) (hs : 256 ≤ G.size) (hi : spFree l = some i) : downI G l 0 (leaf1 key v) = some i := by
  have h1 := leaf1_wt hk hv
  unfold downI
  rw [if_pos ⟨leaf1_right hk hv, by omega⟩]
  unfold placeI
  rw [if_neg (by simp)]
  exact hi
/-- one short pair is a tree. -/
theorem tree_one {n gen : Nat} (h8 : 8 ≤ n) (h256 : n ≤ 256) {key v : ByteArray} (hk : keyB key = true) (hv : v.size ≤ 24) : TreeG (downG (G0 n) (spNew n) gen 0 (leaf1 key v)) 2 1 [(key, v)] := by
  have hd := down0_some (G := G0 n) hk hv (Nat.le_refl 256) (free_new n h8)
  refine .inr ⟨by omega, by omega, by omega, .leaf (n := leaf1 key v) (down_node hd (by show 2 < n; omega)) rfl (leaf1_right hk hv) rfl (fun i e x he hx => ?_) (fun x _ => inB_all _)⟩
  match i, he, hx with
  | 0, he, hx =>
    simp [leaf1] at he hx
    subst he hx
    exact ⟨rfl, rfl⟩
  | i + 1, he, _ => simp [leaf1] at he
set_option maxRecDepth 100000 in
set_option maxHeartbeats 2000000 in
theorem awake13_any {ad : Nat → Addr} {w : World} (hL : Env NoB ad w) : Calls Tryz.prog 12 #[] w fun e w' => e = .returned (.bool true) ∧ Ext w w' := by
  have HL := Lib.hid hL
  clear hL
  go_enter Tryz.func12, Tryz.ntmps12
  go_wp2_with fail
  refine (pager13_any HL.out 16 (by omega) (by omega)).mono ?_
  rintro e w1 ⟨c, s, P, F, rfl, hG, hN⟩
  have hS := LG.startZ (gen := 5) hG hN 5 rfl
  have t0 := hS.c0
  have t1 := hS.c1
  have t2 : _ = some (Value.int .u64 5) := hS.c2
  have HPU := Lib.hid (put0_any hS.env hS.sub hS.pg 5 (by omega) ⟨#[97]⟩ ⟨#[120]⟩ (by decide) (by decide) (low_new 16 (by omega)) (by rw [len_new 16 (by omega)]; exact Nat.le_refl 16) (by show 0 + 10 ≤ 1000000; omega) 2 (free_new 16 (by omega)))
  have HS := Lib.hid hS
  rw [pgV5] at HPU ⊢
  clear hG hN hS
  go_wp2_with fail
  refine HPU.out.mono ?_
  rintro e w2 ⟨P2, F2, hG2, hN2, rfl⟩
  have hS2 := HS.out.step hN2 hG2
  have t0 := hS2.c0
  have t1 := hS2.c1
  have t2 : _ = some (Value.int .u64 5) := hS2.c2
  have HT := tree_one (n := 16) (gen := 5) (by omega) (by omega) (key := ⟨#[97]⟩) (v := ⟨#[120]⟩) (by decide) (by decide)
  have HLK : Hid (lookA (downG (G0 16) (spNew 16) 5 0 (leaf1 ⟨#[97]⟩ ⟨#[120]⟩)) ((2 : Nat) : Int) ⟨#[97]⟩ = .inl (some ⟨#[120]⟩)) := Lib.hid (by rw [HT.look (by decide)]; rfl)
  have HGT := Lib.hid (look_any hS2.env hS2.sub hS2.pg 5 ((2 : Nat) : Int) ⟨#[97]⟩ ((down_total (G0_total 16) _ _ _).look _ _))
  have HS2 := Lib.hid hS2
  rw [pgV5] at HGT
  clear hG2 hN2 hS2 HT
  go_wp2_with fail
  refine HGT.out.mono ?_
  rintro e w3 hd
  rw [HLK.out] at hd
  obtain ⟨P3, F3, hS3, rfl⟩ := HS2.out.done hd
  have HX := Lib.hid hS3.ext0
  clear hd hS3 t0 t1 t2
  go_wp2_with fail
  go_ret
  exact ⟨rfl, HX.out⟩
end Go.Proofs.YtffhiabonigapaaGreatDoor
namespace Go.Proofs.YtffhiabonigapaaGreatDoor
open Go.RowKit
attribute [local go_sem ↓] Go.wp_at_zero Go.wp_at_succ
section
variable {F : Nat → Prop} {ad : Nat → Addr} {w w' : World}
set_option maxRecDepth 100000 in
theorem downNil_any (hL : Env F ad w) (c : Nat) (gen : Nat) (root : Int) (nv : Value) (b : Bool) (ve vk vi : Value) (hnv : nv = .agg #[.bool b, ve, vk, vi]) :
    Calls Tryz.prog 21 #[.agg #[.pointer (some ⟨c, 0, none⟩), .pointer none, .int .u64 (gen : Int)], .int .i64 root, nv] w fun e w' => ∃ f, e = .returned (.tuple #[.int .i64 0, faultV f]) ∧ ErrC F ad w' (faultV f) [-1] 7 ∧ Ext w w' := by
  subst hnv
  have m0 : Ext w ((w.alloc (.cells #[.pointer (some ⟨c, 0, none⟩), .pointer none, .int .u64 (gen : Int)] 44)).alloc (.cells #[.bool b, ve, vk, vi] 26)) := ((Mods.refl _ w).alloc _).alloc _
  have hL0 := hL.mods m0.ext
  have g7 := hL0.c7
  have HL := Lib.hid hL0
  have M0 := Lib.hid m0
  clear hL hL0 m0
  go_enter Tryz.func21, Tryz.ntmps21
  go_wp2_with fail
  refine (new_any HL.out _ _ [] 7 (.sent 7 (by decide) (by decide))).mono ?_
  rintro e w1 ⟨f, rfl, hE, hm⟩
  have HE := Lib.hid hE
  have HM := Lib.hid hm
  clear hE hm
  go_wp2_with fail
  go_ret2
  exact ⟨f, rfl, HE.out, M0.out.trans HM.out⟩
theorem tells13_k (hL : Env F ad w) (hfu : Full ad) {f : Nat} {el : List Int} {k : Nat} (he : ErrC F ad w (faultV f) el k) (q : Nat) (hq : q < 100) (hk : k = q) : Calls Tryz.prog 22 #[faultV f, .int .i64 (q : Int)] w fun e w' => e = .returned (.bool true) ∧ w = w' := by
  refine (tells13_any hL hfu (faultV f) (some (el, k)) ⟨f, rfl, he⟩ q hq).mono ?_
  rintro e w' ⟨rfl, h⟩
  refine ⟨?_, h⟩
  have : decide (codeO (some (el, k)) = q) = true := decide_eq_true hk
  rw [this]
end
set_option maxRecDepth 100000 in
set_option maxHeartbeats 4000000 in
theorem InsertRefuses_any {ad : Nat → Addr} {w : World} (hL : Env NoB ad w) (hfu : Full ad) (root : Int) (key v : ByteArray) (q : Nat) (hq : q < 65536) :
    Calls Tryz.prog 4 #[.int .i64 root, .agg #[.string key, .string v], .int .u16 (q : Int)] w fun e w' => e = .returned (.bool true) ∧ Ext w w' := by
  have m0 : Ext w (w.alloc (.cells #[.string key, .string v] 38)) := (Mods.refl _ w).alloc _
  have HB0 := Lib.hid (Blk.new w #[.string key, .string v] 38)
  have HL := Lib.hid (hL.mods m0.ext)
  have HFU := Lib.hid hfu
  have M0 := Lib.hid m0
  clear hL hfu m0
  go_enter Tryz.func4, Tryz.ntmps4
  go_wp2_with fail
  refine (pager13_any HL.out 16 (by omega) (by omega)).mono ?_
  rintro e w1 ⟨c, s, P, F, rfl, hG, hN⟩
  have hS := LG.startZ (gen := 5) hG hN 5 rfl
  have t0 := hS.c0
  have t1 := hS.c1
  have t2 : _ = some (Value.int .u64 5) := hS.c2
  have x0 := (hS.old HB0.out).cell (o := 0) (v := .string key) rfl
  have x1 := (hS.old HB0.out).cell (o := 1) (v := .string v) rfl
  have HS := Lib.hid hS
  rw [pgV5]
  clear hG hN hS
  go_wp2_with fail
  have HPN := putNil_any (P := P) HS.out.env (some ⟨s, 0, none⟩) 0 root key v
  change Calls Tryz.prog 20 #[.agg #[.pointer none, .pointer (some ⟨s, 0, none⟩), .int .u64 0], .int .i64 root, .string key, .string v] _ _ at HPN
  refine HPN.mono ?_
  clear HPN
  rintro e w2 ⟨f2, el2, rfl, hE2, hm2⟩
  have HE2 := Lib.hid hE2
  have t0 := cellE hm2 t0
  have t1 := cellE hm2 t1
  have t2 := cellE hm2 t2
  have x0 := cellE hm2 x0
  have x1 := cellE hm2 x1
  have HS2 := Lib.hid (HS.out.ext hm2)
  clear hE2 hm2
  go_wp2_with fail
  have HDN := downNil_any HS2.out.env c 0 root (.agg #[.bool true, .slice none 0 0, .slice none 0 0, .slice none 0 0]) true _ _ _ rfl
  change Calls Tryz.prog 21 #[.agg #[.pointer (some ⟨c, 0, none⟩), .pointer none, .int .u64 0], .int .i64 root, .agg #[.bool true, .slice none 0 0, .slice none 0 0, .slice none 0 0]] _ _ at HDN
  refine HDN.mono ?_
  clear HDN
  rintro e w3 ⟨f3, rfl, hE3, hm3⟩
  have HE3 := Lib.hid hE3
  have HE2 := Lib.hid (HE2.out.mods hm3.ext)
  have t0 := cellE hm3 t0
  have t1 := cellE hm3 t1
  have t2 := cellE hm3 t2
  have x0 := cellE hm3 x0
  have x1 := cellE hm3 x1
  have HS3 := Lib.hid (HS2.out.ext hm3)
  clear hE3 hm3
  go_wp2_with fail
  refine (tells13_k HS3.out.env HFU.out HE2.out 7 (by omega) rfl).mono ?_
  rintro e w4 ⟨rfl, rfl⟩
  go_wp2_with fail
  refine (tells13_k HS3.out.env HFU.out HE3.out 7 (by omega) rfl).mono ?_
  rintro e w4 ⟨rfl, rfl⟩
  go_wp2_with fail
  obtain ⟨r, hr⟩ : ∃ r, r = q % 100 := ⟨_, rfl⟩
  obtain ⟨n, hn⟩ : ∃ n, n = 4097 + r := ⟨_, rfl⟩
  have hr2 : r < 100 := by omega
  have hn2 : n ≤ 5000 := by omega
  have hn3 : 4096 < n := by omega
  have e1 : (q : Int).tmod 100 = (r : Int) := by rw [Int.tmod_eq_emod_of_nonneg (by omega)]; omega
  have e2 : IntKind.i64.wrap (4097 + (r : Int)) = (n : Int) := by rw [IntWalk.i64_in _ (by omega)]; omega
  have e3 : IntKind.i64.wrap (r : Int) = (r : Int) := by rw [IntWalk.i64_in _ (by omega)]
  have hmk := run_mk (P := Tryz.prog) 54 5 (.int .u8 0) 1 Tryz.underlying54 Tryz.mkB rfl n (by omega) (by omega)
  obtain ⟨w5, hw5⟩ : ∃ w5, w5 = (w3.alloc (.cells (Array.replicate n (.int .u8 0)) 5)).drew := ⟨_, rfl⟩
  have hm5 : Ext w3 w5 := by rw [hw5]; exact ((Mods.refl _ w3).alloc _).drew
  have hSl : Sl (fun _ => False) w5 1 encB (.slice (some ⟨w3.heap.size, 0, none⟩) n n) (List.replicate n 0) := by
    rw [hw5]
    have hb : Blk (w3.alloc (.cells (Array.replicate n (.int .u8 0)) 5)).drew w3.heap.size (Array.replicate n (.int .u8 0)) 5 := (Blk.new w3 _ _).drew
    refine ⟨_, n, by simp, by simp, by unfold maxLen; omega, by simp; omega, .inr ⟨w3.heap.size, 0, rfl, hb.lt, fun f => f, fun i x hi j u hu => ?_⟩⟩
    obtain ⟨hik, hx⟩ := List.getElem?_eq_some_iff.1 hi
    simp at hik hx
    match j, hu with
    | 0, hu =>
      injection hu with hu
      subst hu hx
      have := hb.cell (o := i) (v := .int .u8 0) (by simp [hik])
      simpa using this
  have hcv := run_conv_sl (P := Tryz.prog) Tryz.underlying54 Tryz.underlying5 Tryz.underlying9 hSl
  obtain ⟨tz, htz⟩ : ∃ tz : ByteArray, tz = ⟨(List.replicate n (0 : UInt8)).toArray⟩ := ⟨_, rfl⟩
  rw [← htz] at hcv
  have hts : tz.size = n := by rw [htz]; simp [ByteArray.size]
  obtain ⟨kk, hkk⟩ : ∃ kk, kk = if keyB key = true then 8 else 2 := ⟨_, rfl⟩
  have hck : ∃ el, checkK key tz = some (el, kk) := by
    unfold checkK
    rw [hkk]
    cases keyB key
    · exact ⟨_, rfl⟩
    · exact ⟨_, by rw [if_neg (by simp), if_pos (by omega)]; rfl⟩
  obtain ⟨elk, hck⟩ := hck
  have HPC := putNo_any (P := P) (c := c) (s := s) (HS3.out.env.mods hm5.ext) 5 root key tz (.inl HFU.out) elk kk hck
  change Calls Tryz.prog 20 #[.agg #[.pointer (some ⟨c, 0, none⟩), .pointer (some ⟨s, 0, none⟩), .int .u64 5], .int .i64 root, .string key, .string tz] _ _ at HPC
  have HPC := Lib.hid HPC
  have HS5 := Lib.hid (HS3.out.ext hm5)
  have a0 := cellE hm5 t0
  have a1 := cellE hm5 t1
  have a2 := cellE hm5 t2
  have ax := cellE hm5 x0
  have HKK := Lib.hid hkk
  have HW5 := Lib.hid hw5
  clear hr hn hn2 hn3 hr2 hSl htz hts hck hkk hm5
  subst hw5
  go_region_held (fun w' => w'.cell? ⟨w1.heap.size, 0, none⟩ = some (.pointer (some ⟨c, 0, none⟩)) ∧ w'.cell? ⟨w1.heap.size, 1, none⟩ = some (.pointer (some ⟨s, 0, none⟩)) ∧ w'.cell? ⟨w1.heap.size, 2, none⟩ = some (.int .u64 5) ∧ w'.cell? ⟨w.heap.size, 0, none⟩ = some (.string key))
    (first | (with_reducible exact ⟨t0, t1, t2, x0⟩) | (with_reducible exact ⟨a0, a1, a2, ax⟩) | (with_reducible exact ⟨y0, y1, y2, yx⟩) | go_keep)
    (first
      | (go_at_call 20; (with_reducible refine HPC.out.mono ?_); rintro e w6 ⟨f6, el6, rfl, hE6, hm6⟩; have y0 := cellE hm6 a0; have y1 := cellE hm6 a1; have y2 := cellE hm6 a2; have yx := cellE hm6 ax)
      | fail)
  have HE6 := Lib.hid hE6
  have HS6 := Lib.hid (HS5.out.ext hm6)
  have HCT : Hid (spCount (spNew 16) = 14) := Lib.hid (by rw [spK_zero 16 (by omega), spK_count 16 0 (by omega)])
  have HFR := pgFree HS6.out.pg
  rw [HCT.out] at HFR
  have HFR := Lib.hid HFR
  have HKY := Lib.hid (key07_any key w6)
  have HAW := Lib.hid (awake13_any (HS6.out.env.anti (Q := NoB) (fun _ f => f.elim)))
  clear hE6 hm6 a0 a1 a2 ax t0 t1 t2 x0 hmk hcv
  cases hkb : keyB key
  all_goals
    rw [hkb] at HKY
    have HK2 := HKK.out
    rw [hkb] at HK2
    simp only [Bool.false_eq_true, if_false, if_true] at HK2
    subst HK2
    clear hkb HKK
    go_wp2_with fail
    refine HKY.out.mono ?_
    rintro e w7 ⟨rfl, rfl⟩
    go_wp2_with fail
    refine (tells13_k HS6.out.env HFU.out HE6.out _ (by omega) rfl).mono ?_
    rintro e w7 ⟨rfl, rfl⟩
    go_wp2_with fail
    refine HFR.out.mono ?_
    rintro e w7 ⟨rfl, rfl⟩
    go_wp2_with fail
    refine HAW.out.mono ?_
    rintro e w7 ⟨rfl, hm7⟩
    go_wp2_with fail
    go_ret
    exact ⟨rfl, M0.out.trans (HS6.out.ext0.trans hm7)⟩
end Go.Proofs.YtffhiabonigapaaGreatDoor
