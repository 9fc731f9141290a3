/- Pages as a row of the call's own, each with its body. Over any program but for the types' numbers. | The laws' pager of pages: a new disk, cache and space, each page put and marked. | The state of a law: its pager lies in a box. | law13.awake. | remove.both, without, gone, check of one key, pull of a short entry. | remove.pull, take, settle, Delete of the last pair of a leaf at the root. -/
import Derived.Test.YtpjpldedebddgaaGreatDoorK31
import Derived.Test.YtpjpldedebddgaaGreatDoorK27
import Derived.Test.YtpjpldedebddgaaGreatDoorK21
import Derived.Test.YtpjpldedebddgaaGreatDoorK29
import Derived.Test.YtpjpldedebddgaaGreatDoorK34
import Derived.Test.YtpjpldedebddgaaGreatDoorK20
import Derived.Deep.RegionHeld3
namespace Go.Proofs.YtpjpldedebddgaaGreatDoor
open Go.RowKit
/-- a page, and where its body lies. -/
abbrev PgE := PageA × (Option Addr × Nat × Nat)
def svE (x : PgE) : Value := .slice x.2.1 x.2.2.1 x.2.2.2
def encPg (x : PgE) : List Value := [.int .i64 x.1.kind, .int .i64 x.1.id, .int .u64 (x.1.gen : Int), svE x]
theorem encPg_ok : EncOk encPg 4 := ⟨fun _ => rfl, by intro x u hu; simp [encPg, svE] at hu; rcases hu with rfl | rfl | rfl | rfl <;> rfl⟩
theorem Tryz.mkPg : (Tryz.prog.info? 228).map (fun i => (i.zero, i.size, i.bytes)) = some (some (.agg #[.int .i64 0, .int .i64 0, .int .u64 0, .slice none 0 0]), 4, 48) := by kernel_rfl
theorem flat_set {α : Type} {enc : α → List Value} {sz : Nat} (henc : ∀ x, (enc x).length = sz) : ∀ (l : List α) (i : Nat) (x x' : α) (j : Nat) (u : Value), l[i]? = some x → j < sz → (enc x).set j u = enc x' → (l.set i x').flatMap enc = (l.flatMap enc).set (i * sz + j) u
  | [], i, x, x', j, u, h, _, _ => by simp at h
  | y :: l, 0, x, x', j, u, h, hj, he => by
    simp at h; subst h
    rw [List.set_cons_zero, List.flatMap_cons, List.flatMap_cons, Nat.zero_mul, Nat.zero_add, ← he, List.set_append_left _ _ (by rw [henc]; exact hj)]
  | y :: l, i + 1, x, x', j, u, h, hj, he => by
    rw [List.set_cons_succ, List.flatMap_cons, List.flatMap_cons, flat_set henc l i x x' j u (by simpa using h) hj he, List.set_append_right _ _ (by rw [henc, Nat.add_mul]; omega), henc]
    congr 2
    rw [Nat.add_mul]; omega
/-- a cell of a row's element is stored. -/
theorem Own.set {α : Type} {F : Nat → Prop} {w : World} {base : Nat} {e : TypeId} {sz : Nat} {enc : α → List Value} {g n c : Nat} {l : List α} (h : Own F w base e sz enc (.slice (some ⟨g, 0, none⟩) n c) l) (henc : ∀ x, (enc x).length = sz) {i j : Nat} {x x' : α} {u : Value} (hx : l[i]? = some x) (hj : j < sz) (he : (enc x).set j u = enc x') :
    Own F (w.setCell ⟨g, i * sz + j, none⟩ u) base e sz enc (.slice (some ⟨g, 0, none⟩) n c) (l.set i x') := by
  refine ⟨?_, h.2⟩
  rcases h.1.2 with ⟨h0, _⟩ | ⟨g', cap, cur, h0, hb, hg, h1, h2, h3, h4⟩
  · cases h0
  · injection h0 with h0 h0n h0c
    injection h0 with h0
    injection h0 with h0
    subst h0 h0c h0n
    refine ⟨by rw [flatMap_len henc], .inr ⟨g, c, cur.setIfInBounds (i * sz + j) u, by rw [List.length_set], hb, heap_setCell_same w g _ cur e u hg, by rw [List.length_set]; exact h1, h2, by simpa using h3, ?_⟩⟩
    rw [flat_set henc l i x x' j u hx hj he, ← h4, List.length_set]
    simp [List.take_set]
structure PgsR (w : World) (base : Nat) (pv : Value) (xs : List PgE) : Prop where
  row : Own NoF w base 228 4 encPg pv xs
  body : ∀ x ∈ xs, Own NoF w base 5 1 encB (svE x) x.1.body
section
variable {w w' : World} {base : Nat} {pv pv' : Value} {xs ys : List PgE}
theorem PgsR.nil (w : World) (base : Nat) : PgsR w base (.slice none 0 0) [] := ⟨Own.nil _ _ _ _ _ _, fun x h => by simp at h⟩
theorem PgsR.ext (h : PgsR w base pv xs) (m : Ext w w') : PgsR w' base pv xs := ⟨h.row.ext m, fun x hx => (h.body x hx).ext m⟩
theorem PgsR.rebase (h : PgsR w base pv xs) {base' : Nat} (hb : base' ≤ base) : PgsR w base' pv xs := ⟨h.row.rebase hb, fun x hx => (h.body x hx).rebase hb⟩
theorem PgsR.mods (h : PgsR w base pv xs) {G : Nat → Prop} (m : Mods G w w') (hr : ∀ g, pv.ownBlock = some g → ¬ G g) (hb : ∀ x ∈ xs, ∀ g, (svE x).ownBlock = some g → ¬ G g) : PgsR w' base pv xs :=
  ⟨h.row.mods m hr, fun x hx => (h.body x hx).mods m (hb x hx)⟩
/-- another row of another type turns. -/
theorem PgsR.other {α : Type} {F : Nat → Prop} {b2 : Nat} {e : TypeId} {sz : Nat} {enc : α → List Value} {v : Value} {l : List α} (h : PgsR w base pv xs) (ho : Own F w b2 e sz enc v l) (m : Mods (fun k => v.ownBlock = some k) w w') (h1 : 228 ≠ e) (h2 : 5 ≠ e) : PgsR w' base pv xs :=
  h.mods m (fun g hg e2 => h.row.far ho h1 g hg e2) (fun x hx g hg e2 => (h.body x hx).far ho h2 g hg e2)
theorem PgsR.blk (h : PgsR w base pv xs) {B : Nat} {c : Array Value} {t : TypeId} (hB : Blk w B c t) (m : Mods (fun k => k = B) w w') (h1 : t ≠ 228) (h2 : t ≠ 5) : PgsR w' base pv xs :=
  h.mods m (fun g hg e => Own.notB h.row hB h1 g hg e) (fun x hx g hg e => Own.notB (h.body x hx) hB h2 g hg e)
theorem PgsR.app (h : PgsR w base pv xs) (m : Mods (fun k => pv.ownBlock = some k) w w') (ho : Own NoF w' base 228 4 encPg pv' (xs ++ ys)) (hy : ∀ y ∈ ys, Own NoF w base 5 1 encB (svE y) y.1.body) : PgsR w' base pv' (xs ++ ys) :=
  ⟨ho, fun x hx => by
    rcases List.mem_append.1 hx with hx | hx
    · exact (h.body x hx).mods m (fun g hg e => (h.body x hx).far h.row (by decide) g hg e)
    · exact (hy x hx).mods m (fun g hg e => (hy x hx).far h.row (by decide) g hg e)⟩
end
end Go.Proofs.YtpjpldedebddgaaGreatDoor
namespace Go.Proofs.YtpjpldedebddgaaGreatDoor
open Go.RowKit
section
variable {P P' F F' : Nat → Prop} {ad : Nat → Addr} {w w' : World} {c s : Nat} {G G' : GA} {l l' : List Nat}
end
def PagerOf (ad : Nat → Addr) (w : World) (gen : Nat) (ps : List PageA) (e : Ending) (w' : World) : Prop :=
  ∃ (c s : Nat) (P F : Nat → Prop), e = .returned (.tuple #[pgV c s gen, .bool true]) ∧ PgR F w' P c s (putsG (G0 200) ps) (marksS (spNew 200) ps) ∧ Nxt NoB P NoB F ad w w'
/-- while pages are put: behind k of them. -/
def FilS (ad : Nat → Addr) (w0 : World) (F0 : Nat → Prop) (c s : Nat) (ps : List PageA) (k : Nat) (wr : World) : Prop :=
  ∃ P F, PgR F wr P c s (putsG (G0 200) (ps.take k)) (marksS (spNew 200) (ps.take k)) ∧ Nxt NoB P F0 F ad w0 wr
end Go.Proofs.YtpjpldedebddgaaGreatDoor
namespace Go.Proofs.YtpjpldedebddgaaGreatDoor
open Go.RowKit
theorem pgV5 (c s : Nat) : pgV c s 5 = .agg #[.pointer (some ⟨c, 0, none⟩), .pointer (some ⟨s, 0, none⟩), .int .u64 5] := rfl
structure LG (ad : Nat → Addr) (w0 w : World) (B c s gen : Nat) (P F : Nat → Prop) (G : GA) (l : List Nat) : Prop where
  pg : PgR F w P c s G l
  nx : Nxt NoB P NoB F ad w0 w
  box : Blk w B #[.pointer (some ⟨c, 0, none⟩), .pointer (some ⟨s, 0, none⟩), .int .u64 (gen : Int)] 48
  nB : ¬ P B
  nF : ¬ F B
section
variable {ad : Nat → Addr} {w0 w w' : World} {B c s gen : Nat} {P P' F F' : Nat → Prop} {G G' : GA} {l l' : List Nat}
theorem LG.env (h : LG ad w0 w B c s gen P F G l) : Env F ad w := h.nx.env
theorem LG.sub (h : LG ad w0 w B c s gen P F G l) : ∀ k, P k → F k := h.nx.sub
theorem LG.step (h : LG ad w0 w B c s gen P F G l) (n : Nxt P P' F F' ad w w') (g : PgR F' w' P' c s G' l') : LG ad w0 w' B c s gen P' F' G' l' :=
  ⟨g, h.nx.trans n, n.blk h.box h.nB, n.not h.box.lt h.nB, fun f => h.nF (n.oldF B h.box.lt f)⟩
theorem LG.ext (h : LG ad w0 w B c s gen P F G l) (m : Ext w w') : LG ad w0 w' B c s gen P F G l := h.step (Nxt.ext h.env h.sub m) (h.pg.at m)
theorem LG.drew (h : LG ad w0 w B c s gen P F G l) : LG ad w0 w.drew B c s gen P F G l := h.ext (Mods.refl _ w).drew
theorem LG.ext0 (h : LG ad w0 w B c s gen P F G l) : Ext w0 w := h.nx.stp.mods
theorem LG.c0 (h : LG ad w0 w B c s gen P F G l) : w.cell? ⟨B, 0, none⟩ = some (.pointer (some ⟨c, 0, none⟩)) := h.box.cell rfl
theorem LG.c1 (h : LG ad w0 w B c s gen P F G l) : w.cell? ⟨B, 1, none⟩ = some (.pointer (some ⟨s, 0, none⟩)) := h.box.cell rfl
theorem LG.c2 (h : LG ad w0 w B c s gen P F G l) : w.cell? ⟨B, 2, none⟩ = some (.int .u64 (gen : Int)) := h.box.cell rfl
theorem LG.start (g : PgR F w P c s G l) (n : Nxt NoB P NoB F ad w0 w) : LG ad w0 (w.alloc (.cells #[.pointer (some ⟨c, 0, none⟩), .pointer (some ⟨s, 0, none⟩), .int .u64 (gen : Int)] 48)) w.heap.size c s gen P F G l :=
  ⟨g.at ((Mods.refl _ w).alloc _), n.trans (Nxt.ext n.env n.sub ((Mods.refl _ w).alloc _)), Blk.new w _ _, fun f => by have := g.bd _ f; omega, fun f => by have := n.env.lt _ f; omega⟩
theorem LG.startZ (g : PgR F w P c s G l) (n : Nxt NoB P NoB F ad w0 w) (z : Int) (hz : z = (gen : Int)) : LG ad w0 (w.alloc (.cells #[.pointer (some ⟨c, 0, none⟩), .pointer (some ⟨s, 0, none⟩), .int .u64 z] 48)) w.heap.size c s gen P F G l := by
  subst hz; exact LG.start g n
/-- a block that is old when the law's pager comes is as it was. -/
theorem LG.old {b : Nat} {cs : Array Value} {t : TypeId} (h : LG ad w0 w B c s gen P F G l) (hb : Blk w0 b cs t) : Blk w b cs t := hb.ext h.ext0
/-- .. and what lies there reads as it did, and is left alone. -/
theorem LG.sl {α : Type} {sz : Nat} {enc : α → List Value} {v : Value} {x : List α} (h : LG ad w0 w B c s gen P F G l) (hv : Sl NoB w0 sz enc v x) : Sl F w sz enc v x :=
  hv.step h.ext0 (fun k hk _ hf => (h.nx.oldF k hk hf).elim)
/-- the state behind a call: the pager's, with what is known. -/
def LgDone (ad : Nat → Addr) (w0 : World) (B c s gen : Nat) (G : GA) (l : List Nat) (R : (Nat → Prop) → World → Ending → Prop) (e : Ending) (w' : World) : Prop :=
  ∃ P' F', LG ad w0 w' B c s gen P' F' G l ∧ R F' w' e
theorem LG.done (h : LG ad w0 w B c s gen P F G l) {R : (Nat → Prop) → World → Ending → Prop} {e : Ending} (hd : PgDone F P ad w c s G' l' R e w') : LgDone ad w0 B c s gen G' l' R e w' := by
  obtain ⟨P', F', g, n, r⟩ := hd
  exact ⟨P', F', h.step n g, r⟩
end
/-- what is known of a tree that is put on a new pager. -/
structure TreeOn (ps : List PageA) (root d : Nat) (l : List PairS) : Prop where
  tame : Tame 300 l
  puts : PutsOk 200 ps
  on : OnG (putsG (G0 200) ps) ps
  tree : TreeG (putsG (G0 200) ps) root d l
  few : ps.length ≤ 100
theorem tree_on {l : List PairS} (hT : Tame 300 l) {e k : Nat} (he : 1 ≤ e) (he3 : e ≤ 3) (hk : 2 ≤ k) (hk4 : k ≤ 4) : TreeOn (buildA 5 e k l).1 (buildA 5 e k l).2.1 (buildA 5 e k l).2.2 l := by
  have hf := hT.few 5 e k he hk
  obtain ⟨h1, h2⟩ := fit_puts (n := 200) (gen := 5) (by omega) (by omega) (build_fit 5 e k he he3 hk hk4 hT.ok (by omega)) (by omega)
  exact ⟨hT, h1, h2, tree_built hT he he3 hk hk4 h2, by omega⟩
theorem PgsR.pages {w : World} {base : Nat} {pv : Value} {xs : List PgE} (h : PgsR w base pv xs) (hl : xs.length ≤ 1000) (hb : ∀ x ∈ xs, x.1.body.length ≤ 1000) : Sl NoB w 4 encPg pv xs ∧ ∀ x ∈ xs, Sl NoB w 1 encB (svE x) x.1.body :=
  ⟨h.row.sl encPg_ok.len (by omega), fun x hx => (h.body x hx).sl encB_ok.len (by have := hb x hx; omega)⟩
theorem PutsOk.bodies {n : Nat} {ps : List PageA} (h : PutsOk n ps) : ∀ p ∈ ps, p.body.length ≤ 1000 := fun p hp => by
  have h1 := h.ok p hp
  unfold pgCheck at h1
  rw [if_neg (by decide)] at h1
  split at h1
  · cases h1
  · rename_i hc; omega
end Go.Proofs.YtpjpldedebddgaaGreatDoor
namespace Go.Proofs.YtpjpldedebddgaaGreatDoor
open Go.RowKit
attribute [local go_sem ↓] Go.wp_at_zero Go.wp_at_succ
theorem low_new (n : Nat) (h : 8 ≤ n) : LowL (spNew n) := by
  rw [spK_zero n (by omega)]
  exact ⟨by rw [spK_get n 0 0 (by omega)]; rfl, by rw [spK_get n 0 1 (by omega)]; rfl⟩
theorem free_new (n : Nat) (h : 8 ≤ n) : spFree (spNew n) = some 2 := by
  rw [spK_zero n (by omega), spK_free n 0 (by omega), if_pos (by omega)]
theorem len_new (n : Nat) (h : 8 ≤ n) : (spNew n).length = n := by
  rw [spK_zero n (by omega), spK_len n 0 (by omega)]
theorem down_total {G : GA} (h : G.total) (l : List Nat) (gen : Nat) (n : NodeA) : (downG G l gen 0 n).total := by
  unfold downG
  split
  · exact h
  · unfold placeG
    rw [if_pos (.inl rfl)]
    exact put_total h _
/-- the node that was put down. -/
theorem down_node {G : GA} {l : List Nat} {gen i : Nat} {n : NodeA} (hd : downI G l 0 n = some i) (hi : i < G.blocks) : (downG G l gen 0 n).node i = some n := by
  have hr := (downI_ok hd).1
  have hv : (downG G l gen 0 n).view i = some (.inl ⟨kindA n, (i : Int), gen, bytesN n⟩) := by
    unfold downG
    rw [hd]
    simp only
    rw [put_view, if_pos (by simp)]
  unfold GA.node
  rw [(downG_lim G l gen 0 n).2.1, if_pos hi, hv]
  simp only
  have hdec : decodeA ⟨kindA n, (i : Int), gen, bytesN n⟩ = .inl n := by
    unfold decodeA kindA
    cases hl : n.leaf with
    | true =>
      have := (getN_iff true (bytesN n) n).2 ⟨hr, hl, rfl⟩
      simp [this]
    | false =>
      have := (getN_iff false (bytesN n) n).2 ⟨hr, hl, rfl⟩
      simp [this]
  rw [hdec]
theorem down0_some {G : GA} {l : List Nat} {i : Nat} {key v : ByteArray} (hk : keyB key = true) (hv : v.size ≤ 24) (hs : 256 ≤ G.size) (hi : spFree l = some i) : downI G l 0 (leaf1 key v) = some i := by
  have h1 := leaf1_wt hk hv
  unfold downI
  rw [if_pos ⟨leaf1_right hk hv, by omega⟩]
  unfold placeI
  rw [if_neg (by simp)]
  exact hi
/-- one short pair is a tree. -/
theorem tree_one {n gen : Nat} (h8 : 8 ≤ n) (h256 : n ≤ 256) {key v : ByteArray} (hk : keyB key = true) (hv : v.size ≤ 24) : TreeG (downG (G0 n) (spNew n) gen 0 (leaf1 key v)) 2 1 [(key, v)] := by
  have hd := down0_some (G := G0 n) hk hv (Nat.le_refl 256) (free_new n h8)
  refine .inr ⟨by omega, by omega, by omega, .leaf (n := leaf1 key v) (down_node hd (by show 2 < n; omega)) rfl (leaf1_right hk hv) rfl (fun i e x he hx => ?_) (fun x _ => inB_all _)⟩
  match i, he, hx with
  | 0, he, hx =>
    simp [leaf1] at he hx
    subst he hx
    exact ⟨rfl, rfl⟩
  | i + 1, he, _ => simp [leaf1] at he
set_option maxRecDepth 100000 in
set_option maxHeartbeats 2000000 in
theorem awake13_any {ad : Nat → Addr} {w : World} (hL : Env NoB ad w) : Calls Tryz.prog 15 #[] w fun e w' => e = .returned (.bool true) ∧ Ext w w' := by
  have HL := Lib.hid hL
  clear hL
  go_enter Tryz.func15, Tryz.ntmps15
  go_wp2_with fail
  refine (pager13_any HL.out 16 (by omega) (by omega)).mono ?_
  rintro e w1 ⟨c, s, P, F, rfl, hG, hN⟩
  have hS := LG.startZ (gen := 5) hG hN 5 rfl
  have t0 := hS.c0
  have t1 := hS.c1
  have t2 : _ = some (Value.int .u64 5) := hS.c2
  have HPU := Lib.hid (put0_any hS.env hS.sub hS.pg 5 (by omega) ⟨#[97]⟩ ⟨#[120]⟩ (by decide) (by decide) (low_new 16 (by omega)) (by rw [len_new 16 (by omega)]; exact Nat.le_refl 16) (by show 0 + 10 ≤ 1000000; omega) 2 (free_new 16 (by omega)))
  have HS := Lib.hid hS
  rw [pgV5] at HPU ⊢
  clear hG hN hS
  go_wp2_with fail
  refine HPU.out.mono ?_
  rintro e w2 ⟨P2, F2, hG2, hN2, rfl⟩
  have hS2 := HS.out.step hN2 hG2
  have t0 := hS2.c0
  have t1 := hS2.c1
  have t2 : _ = some (Value.int .u64 5) := hS2.c2
  have HT := tree_one (n := 16) (gen := 5) (by omega) (by omega) (key := ⟨#[97]⟩) (v := ⟨#[120]⟩) (by decide) (by decide)
  have HLK : Hid (lookA (downG (G0 16) (spNew 16) 5 0 (leaf1 ⟨#[97]⟩ ⟨#[120]⟩)) ((2 : Nat) : Int) ⟨#[97]⟩ = .inl (some ⟨#[120]⟩)) := Lib.hid (by rw [HT.look (by decide)]; rfl)
  have HGT := Lib.hid (look_any hS2.env hS2.sub hS2.pg 5 ((2 : Nat) : Int) ⟨#[97]⟩ ((down_total (G0_total 16) _ _ _).look _ _))
  have HS2 := Lib.hid hS2
  rw [pgV5] at HGT
  clear hG2 hN2 hS2 HT
  go_wp2_with fail
  refine HGT.out.mono ?_
  rintro e w3 hd
  rw [HLK.out] at hd
  obtain ⟨P3, F3, hS3, rfl⟩ := HS2.out.done hd
  have HX := Lib.hid hS3.ext0
  clear hd hS3 t0 t1 t2
  go_wp2_with fail
  go_ret
  exact ⟨rfl, HX.out⟩
end Go.Proofs.YtpjpldedebddgaaGreatDoor
namespace Go.Proofs.YtpjpldedebddgaaGreatDoor
open Go.RowKit
attribute [local go_sem ↓] Go.wp_at_zero Go.wp_at_succ
section
variable {P P' F F' H : Nat → Prop} {ad : Nat → Addr} {w w' : World} {c s : Nat} {G : GA} {l : List Nat}
set_option maxRecDepth 100000 in
theorem bothE_any (lv mv : Value) (L M : List EntryA) (hl : Sl F w 4 encE lv L) (hm : Sl H w 4 encE mv M) (hb : L.length ≤ 1000000) (hb2 : M.length ≤ 1000000) :
    Calls Tryz.prog 126 #[lv, mv] w fun e w' => ∃ a c, e = .returned (.slice a (L.length + M.length) c) ∧ Own (fun _ => False) w' w.heap.size 114 4 encE (.slice a (L.length + M.length) c) (L ++ M) ∧ Ext w w' := by
  have HL := Lib.hid hl
  have HM := Lib.hid hm
  have hO0 : Hid (Own (fun _ => False) (w.alloc (.cells #[] 114)) w.heap.size 114 4 encE (.slice (some ⟨w.heap.size, 0, none⟩) 0 0) ([] : List EntryA)) := Lib.hid (Own.empty (fun k f => f.elim) _ _ _ encE_ok.len)
  have hm0 : Hid (Ext w (w.alloc (.cells #[] 114))) := Lib.hid ((Mods.refl _ w).alloc _)
  obtain ⟨la, lc, rfl, l1, l2, l3, -⟩ := hl
  obtain ⟨ma, mc, rfl, m1, m2, m3, -⟩ := hm
  go_enter Tryz.func126, Tryz.ntmps126
  go_wp2_with (first
    | (at_builtin; refine wpl_app2 Tryz.elE encE_ok rfl _ _ rfl w.heap.size _ (.slice la L.length lc) [] L rfl rfl hO0.out (HL.out.ext hm0.out) (by simp only [List.length_nil]; omega) (by simp) (fun f => f) ?_; rw [List.nil_append, List.length_nil, Nat.zero_add]; intro a1 c1 w1 hO1 hm1 hat1; have HO1 := Lib.hid hO1; have HM1 : Hid (Ext w w1) := Lib.hid (Mods.past hm0.out (hm1.mono (fun k hk => (hO0.out.lt k hk).1))); clear hO1 hm1 hat1)
    | (at_builtin; refine wpl_app2 Tryz.elE encE_ok rfl _ _ rfl w.heap.size (.slice a1 L.length c1) (.slice ma M.length mc) L M rfl rfl HO1.out (HM.out.ext HM1.out) (by omega) HM1.out.size (fun f => f) ?_; intro a2 c2 w2 hO2 hm2 hat2; have HO2 := Lib.hid hO2; have HM2 : Hid (Ext w w2) := Lib.hid (Mods.past HM1.out (hm2.mono (fun k hk => (HO1.out.lt k hk).1))); clear hO2 hm2 hat2)
    | fail)
  go_ret
  exact ⟨_, _, rfl, HO2.out, HM2.out⟩
set_option maxRecDepth 100000 in
theorem withoutE_any (lv : Value) (L : List EntryA) (hl : Sl F w 4 encE lv L) (i : Nat) (hi : i < L.length) (hb : L.length ≤ 1000000) (q : Nat) (hq : q = L.length - 1) :
    Calls Tryz.prog 220 #[lv, .int .i64 (i : Int)] w fun e w' => ∃ a c, e = .returned (.slice a q c) ∧ Own (fun _ => False) w' w.heap.size 114 4 encE (.slice a q c) (L.take i ++ L.drop (i + 1)) ∧ Ext w w' := by
  have HL := Lib.hid hl
  obtain ⟨la, lc, rfl, l1, l2, l3, l4⟩ := hl
  unfold maxLen at l2
  have u1 : IntKind.i64.wrap ((i : Int) + 1) = ((i + 1 : Nat) : Int) := by rw [IntWalk.i64_in _ (by omega)]; omega
  have h1 : (L.take i).length = i := by rw [List.length_take]; omega
  have h2 : (L.drop (i + 1)).length = L.length - (i + 1) := List.length_drop
  have g1 : (0 : Int) ≤ (i : Int) := by omega
  have g2 : (i : Int) ≤ (lc : Int) := by omega
  have g3 : ((i + 1 : Nat) : Int) ≤ (L.length : Int) := by omega
  have g4 : (0 : Int) ≤ ((i + 1 : Nat) : Int) := by omega
  have hn : ∃ b off, la = some ⟨b, off, none⟩ := by
    rcases l4 with h | ⟨b, off, h, _⟩
    · rw [h] at hi; simp at hi
    · exact ⟨b, off, h⟩
  have HQ : Hid (i + (L.length - (i + 1)) = q) := Lib.hid (by omega)
  have p1 : Sl F w 4 encE (.slice la i lc) (L.take i) := HL.out.pre i (by omega)
  have p3 : Sl F w 4 encE (.slice (if lc = i + 1 then la else la.map (·.add ((i + 1) * 4))) (L.length - (i + 1)) (lc - (i + 1))) (L.drop (i + 1)) := HL.out.tail_ (i + 1) hi
  by_cases hc : lc = i + 1
  · rw [if_pos hc] at p3
    subst hc
    rw [Nat.sub_self, show L.length - (i + 1) = 0 by omega] at p3
    have HB := bothE_any _ _ _ _ (p1.ext (Mods.refl _ w).drew) (p3.ext (Mods.refl _ w).drew) (by omega) (by omega)
    rw [h1, h2, HQ.out] at HB
    have HB := Lib.hid HB
    clear p1 p3 h1 h2 l4 hn hq
    go_enter Tryz.func220, Tryz.ntmps220
    go_wp2_with fail
    go_region_held (fun _ => True) (trivial)
      (first
        | (go_at_call 126; (with_reducible refine HB.out.mono ?_); rintro e w1 ⟨a, c, rfl, hO, hm⟩)
        | fail)
    all_goals
      have HO := Lib.hid hO
      have HM := Lib.hid ((Mods.refl _ w).drew.trans hm)
      clear hO hm
      go_wp2_with fail
      go_ret
      exact ⟨_, _, rfl, HO.out, HM.out⟩
  · rw [if_neg hc] at p3
    have HB := bothE_any _ _ _ _ (p1.ext (Mods.refl _ w).drew) (p3.ext (Mods.refl _ w).drew) (by omega) (by omega)
    rw [h1, h2, HQ.out] at HB
    have HB := Lib.hid HB
    clear p1 p3 h1 h2 l4 hn hq
    go_enter Tryz.func220, Tryz.ntmps220
    go_wp2_with fail
    go_region_held (fun _ => True) (trivial)
      (first
        | (go_at_call 126; (with_reducible refine HB.out.mono ?_); rintro e w1 ⟨a, c, rfl, hO, hm⟩)
        | fail)
    all_goals
      have HO := Lib.hid hO
      have HM := Lib.hid ((Mods.refl _ w).drew.trans hm)
      clear hO hm
      go_wp2_with fail
      go_ret
      exact ⟨_, _, rfl, HO.out, HM.out⟩
set_option maxRecDepth 100000 in
theorem gone_any (hL : Env F ad w) (hP : ∀ k, P k → F k) (h : PgR F w P c s G l) (gen id : Nat) :
    Calls Tryz.prog 111 #[pgV c s gen, .int .i64 (id : Int)] w (PgDone F P ad w c s (G.drop id) (spGive l (id : Int)).1 (fun F' w' e => ∃ ev, e = .returned ev ∧ ErrR F' ad w' ev (spGive l (id : Int)).2)) := by
  have m0 : Ext w (w.alloc (.cells #[.pointer (some ⟨c, 0, none⟩), .pointer (some ⟨s, 0, none⟩), .int .u64 (gen : Int)] 48)) := (Mods.refl _ w).alloc _
  have HB0 := Lib.hid (Blk.new w #[.pointer (some ⟨c, 0, none⟩), .pointer (some ⟨s, 0, none⟩), .int .u64 (gen : Int)] 48)
  have HBP : Hid (¬ P w.heap.size) := Lib.hid (fun hp => by have := h.bd _ hp; omega)
  have HN0 := Lib.hid (Nxt.ext hL hP m0)
  have HDR := Lib.hid (pgDrop HN0.out.env HN0.out.sub (h.at m0) id)
  unfold pgV
  clear hL hP h m0
  go_enter Tryz.func111, Tryz.ntmps111
  go_wp2_with fail
  refine HDR.out.mono ?_
  rintro e w1 ⟨P1, F1, hG1, hN1, bb, rfl⟩
  have hB1 := hN1.blk HB0.out HBP.out
  have b1 := hB1.cell (o := 1) (v := .pointer (some ⟨s, 0, none⟩)) rfl
  have HN1 := Lib.hid (HN0.out.trans hN1)
  have HGV := Lib.hid (pgGive hN1.env hN1.sub hG1 (id : Int))
  clear hG1 hN1 hB1
  go_wp2_with fail
  refine HGV.out.mono ?_
  rintro e w2 ⟨P2, F2, hG2, hN2, ev, rfl, hev⟩
  have HG2 := Lib.hid hG2
  have HN2 := Lib.hid (HN1.out.trans hN2)
  have HEV := Lib.hid hev
  clear hG2 hN2 hev
  go_wp2_with fail
  go_ret
  exact ⟨P2, F2, HG2.out, HN2.out, ev, rfl, HEV.out⟩
set_option maxRecDepth 100000 in
theorem remCheck1_any (op : ByteArray) (gen : Nat) (key : ByteArray) (hk : keyB key = true) (kv : Value) (hkv : Sl F w 1 encS kv [key]) :
    Calls Tryz.prog 108 #[.string op, pgV c s gen, kv] w fun e w' => e = .returned .nilIface ∧ Ext w w' := by
  have m0 : Ext w (w.alloc (.cells #[.pointer (some ⟨c, 0, none⟩), .pointer (some ⟨s, 0, none⟩), .int .u64 (gen : Int)] 48)) := (Mods.refl _ w).alloc _
  obtain ⟨ka, kc, rfl, k1, k2, k3, kk⟩ := hkv
  obtain ⟨b, off, rfl, _, _, hc⟩ := Sl.at kk m0 (fun _ _ f => f.elim) 0 (by simp)
  have c0 := hc 0 (.string key) rfl
  simp only [Nat.zero_mul, Nat.add_zero] at c0
  have hne : key.toList ≠ [] := fun e => by
    have := (keyB_iff key).1 hk
    have h0 : key.size = 0 := by rw [← size_toList, ← ByteArray.toList_eq, e]; rfl
    omega
  have hne3 : key.toList.isEmpty = false := by
    cases h : key.toList with
    | nil => exact absurd h hne
    | cons _ _ => rfl
  have M0 := Lib.hid m0
  have HK := Lib.hid (key_any key)
  rw [hk] at HK
  unfold pgV
  clear m0 kk hc hk
  go_enter Tryz.func108, Tryz.ntmps108
  go_wp2_with fail
  go_loopg [22] 1 (fun m i wr => ∃ k : Nat, k + m = 1 ∧ i = .int .i64 (k : Int) ∧ Hid (wr = w.alloc (.cells #[.pointer (some ⟨c, 0, none⟩), .pointer (some ⟨s, 0, none⟩), .int .u64 (gen : Int)] 48)))
  case atStart => exact ⟨0, by omega, rfl, Lib.hid rfl⟩
  case round =>
    obtain ⟨k, hkm, rfl, HW⟩ := hrel
    obtain rfl := HW.out
    rcases Nat.eq_zero_or_pos k with hk0 | hk0
    · subst hk0
      go_wp2_with fail
      refine (HK.out _).mono ?_
      rintro e w1 ⟨rfl, rfl⟩
      go_wp2_with fail
      go_roundg 0
      case measure => omega
      case rel => exact ⟨1, by omega, by go_num, Lib.hid rfl⟩
    · obtain rfl : k = 1 := by omega
      go_wp2_with fail
      go_ret
      exact ⟨rfl, M0.out⟩
end
end Go.Proofs.YtpjpldedebddgaaGreatDoor
namespace Go.Proofs.YtpjpldedebddgaaGreatDoor
open Go.RowKit
attribute [local go_sem ↓] Go.wp_at_zero Go.wp_at_succ
theorem Tryz.remSz : (Tryz.prog.info? 178).map (·.size) = some 5 := by kernel_rfl
abbrev remZc : Array Value := #[.bool false, .slice none 0 0, .slice none 0 0, .slice none 0 0, .bool false]
/-- what became of a leaf that was all one pair. -/
def PullR (_F : Nat → Prop) (_w : World) (e : Ending) : Prop :=
  ∃ (ea : Option Addr) (ec : Nat) (ka : Option Addr) (kc : Nat) (ia : Option Addr) (ic : Nat), e = .returned (.tuple #[.agg #[.bool true, .slice ea 0 ec, .slice ka 0 kc, .slice ia 0 ic, .bool true], .nilIface])
theorem PullR.form {F : Nat → Prop} {w : World} {e : Ending} (h : PullR F w e) : ∃ a b, e = .returned (.tuple #[a, b]) := by
  obtain ⟨_, _, _, _, _, _, h⟩ := h
  exact ⟨_, _, h⟩
section
variable {P P' F F' H : Nat → Prop} {ad : Nat → Addr} {w w' : World} {c s : Nat} {G : GA} {l : List Nat}
theorem leaf1_find (key v : ByteArray) : findN (leaf1 key v) key = (0, true) := by
  rw [findN_leaf rfl]
  have h1 : ltS key key = false := ltS_irrefl key
  unfold leaf1 entAt entIs
  simp [entAt, h1]
set_option maxRecDepth 100000 in
set_option maxHeartbeats 1000000 in
theorem pull1_any (gen : Nat) (key v : ByteArray) (ve vk vi : Value) (hve : Sl F w 4 encE ve (leaf1 key v).entries) (hvk : Sl F w 1 encS vk (leaf1 key v).keys) (hvi : Sl F w 1 encI vi (leaf1 key v).kids) :
    Calls Tryz.prog 167 #[pgV c s gen, .agg #[.bool true, ve, vk, vi], .string key] w fun e w' => PullR F w' e ∧ Ext w w' := by
  have hfd0 := fun W (m : Ext w W) => findNode_any (w := W) (leaf1 key v) key ve vk vi (hve.ext m) (hvk.ext m)
  rw [leaf1_find] at hfd0
  have HVE := Lib.hid hve
  obtain ⟨ea, ec, rfl, e1, e2, _, ee⟩ := hve
  obtain ⟨ka, kc, rfl, _, _, _, _⟩ := hvk
  obtain ⟨ia, ic, rfl, _, _, _, _⟩ := hvi
  have hn : ∃ b off, ea = some ⟨b, off, none⟩ := by
    rcases ee with h | ⟨b, off, h, _⟩
    · simp [leaf1] at h
    · exact ⟨b, off, h⟩
  obtain ⟨eb, eo, rfl⟩ := hn
  have HEC := Lib.hid ee
  change 1 ≤ ec at e1
  change Calls Tryz.prog 167 #[pgV c s gen, .agg #[.bool true, .slice (some ⟨eb, eo, none⟩) 1 ec, .slice ka 0 kc, .slice ia 0 ic], .string key] _ _
  unfold maxLen at e2
  obtain ⟨w1, hw1⟩ : ∃ w1, w1 = ((w.alloc (.cells #[.pointer (some ⟨c, 0, none⟩), .pointer (some ⟨s, 0, none⟩), .int .u64 (gen : Int)] 48)).alloc (.cells #[.bool true, .slice (some ⟨eb, eo, none⟩) 1 ec, .slice ka 0 kc, .slice ia 0 ic] 26)).alloc (.cells remZc 178) := ⟨_, rfl⟩
  have m1 : Ext w w1 := by rw [hw1]; exact (((Mods.refl _ w).alloc _).alloc _).alloc _
  have HD : Hid (Blk w1 (w.heap.size + 1) #[.bool true, .slice (some ⟨eb, eo, none⟩) 1 ec, .slice ka 0 kc, .slice ia 0 ic] 26) := Lib.hid (by rw [hw1]; exact (show Blk ((w.alloc _).alloc _) (w.heap.size + 1) _ 26 from heap_at (by simp)).alloc _)
  have HR : Hid (Blk w1 (w.heap.size + 1 + 1) remZc 178) := Lib.hid (by rw [hw1]; exact heap_at (by simp))
  have HFD := Lib.hid (hfd0 w1 m1)
  have M1 := Lib.hid m1
  have HW1 := Lib.hid hw1
  unfold pgV
  clear hfd0 m1 hw1 ee
  go_enter Tryz.func167, Tryz.ntmps167
  go_wp2_with fail
  rw [← HW1.out]
  refine (show Calls Tryz.prog 117 #[.agg #[.bool true, .slice (some ⟨eb, eo, none⟩) 1 ec, .slice ka 0 kc, .slice ia 0 ic], .string key] w1 (fun x w' => x = .returned (.tuple #[.int .i64 0, .bool true]) ∧ Ext w1 w') from HFD.out).mono ?_
  rintro e w2 ⟨rfl, hm2⟩
  have M2 := Lib.hid (M1.out.trans hm2)
  have hD2 := HD.out.ext hm2
  have d1 := hD2.cell (o := 1) (v := .slice (some ⟨eb, eo, none⟩) 1 ec) rfl
  obtain ⟨b, off, hbo, _, _, hc⟩ := Sl.at HEC.out M2.out (fun _ _ f => f.elim) 0 (by simp [leaf1])
  injection hbo with hbo
  injection hbo with hb1 hb2
  subst hb1 hb2
  have c0 := hc 0 (.string key) rfl
  have c1 := hc 1 (.string v) rfl
  have c2 := hc 2 (.int .i64 0) rfl
  have c3 := hc 3 (.int .i64 0) rfl
  simp only [Nat.zero_mul, Nat.add_zero] at c0 c1 c2 c3
  have HD2 := Lib.hid hD2
  have HR2 := Lib.hid (HR.out.ext hm2)
  clear hm2 hD2 hc
  have d1a := cell_alloc d1 (.cells #[.string key, .string v, .int .i64 0, .int .i64 0] 114)
  have m3 : Ext w2 (w2.alloc (.cells #[.string key, .string v, .int .i64 0, .int .i64 0] 114)) := (Mods.refl _ _).alloc _
  have HWO := withoutE_any _ (leaf1 key v).entries (HVE.out.ext (M2.out.trans m3)) 0 (by simp [leaf1]) (by simp [leaf1]) 0 rfl
  have HWO := Lib.hid (show Calls Tryz.prog 220 #[.slice (some ⟨eb, eo, none⟩) 1 ec, .int .i64 0] (w2.alloc (.cells #[.string key, .string v, .int .i64 0, .int .i64 0] 114)) _ from HWO)
  have HM3 := Lib.hid m3
  clear m3
  go_wp2_with fail
  refine HWO.out.mono ?_
  rintro e w3 ⟨a3, c3', rfl, _, hm3⟩
  have hD3 := HD2.out.ext (HM3.out.trans hm3)
  have hR3 := HR2.out.ext (HM3.out.trans hm3)
  have d0 := hD3.cell (o := 0) (v := .bool true) rfl
  have d1 := hD3.cell (o := 1) (v := .slice (some ⟨eb, eo, none⟩) 1 ec) rfl
  have d2 := hD3.cell (o := 2) (v := .slice ka 0 kc) rfl
  have d3 := hD3.cell (o := 3) (v := .slice ia 0 ic) rfl
  have df := hD3.frozen
  have r0 := hR3.cell (o := 0) rfl
  have r1 := hR3.cell (o := 1) rfl
  have r2 := hR3.cell (o := 2) rfl
  have r3 := hR3.cell (o := 3) rfl
  have r4 := hR3.cell (o := 4) rfl
  have rf := hR3.frozen
  have HR3 := Lib.hid hR3
  have M3 := Lib.hid (M2.out.trans (HM3.out.trans hm3))
  clear hD3 hR3 hm3
  go_wp2_with fail
  have mD := Mods.at (fun k => k = w.heap.size + 1) w3 (w.heap.size + 1) 1 (.slice a3 0 c3') rfl
  have hR4 := HR3.out.mods mD (by omega)
  have bR := hR4.set5 (.bool true) (.slice a3 0 c3') (.slice ka 0 kc) (.slice ia 0 ic) (.bool true)
  have mX := Mods.set5 (M3.out.setCell (p := ⟨w.heap.size + 1, 1, none⟩) (.inl (by simp)) (.slice a3 0 c3')) (R := w.heap.size + 1 + 1) (.inl (by omega)) (.bool true) (.slice a3 0 c3') (.slice ka 0 kc) (.slice ia 0 ic) (.bool true)
  refine bodyPost_ret (results_row_tmp rfl _ _ (w.heap.size + 1 + 1) 178 _ _ rfl bR Tryz.underlying178 rfl Tryz.remSz) rfl ?_
  exact ⟨⟨_, _, _, _, _, _, rfl⟩, mX⟩
set_option maxRecDepth 100000 in
set_option maxHeartbeats 1000000 in
theorem take1_any (hL : Env F ad w) (hP : ∀ k, P k → F k) (h : PgR F w P c s G l) (gen id : Nat) (key v : ByteArray) (hk : G.knows (id : Int)) (hld : G.load (id : Int) = .inl (leaf1 key v)) :
    Calls Tryz.prog 109 #[pgV c s gen, .int .i64 (id : Int), .int .i64 1, .string key] w (PgDone F P ad w c s G l (fun F' w' e => PullR F' w' e)) := by
  obtain ⟨w1, hw1⟩ : ∃ w1, w1 = (w.alloc (.cells #[.pointer (some ⟨c, 0, none⟩), .pointer (some ⟨s, 0, none⟩), .int .u64 (gen : Int)] 48)).alloc (.cells remZc 178) := ⟨_, rfl⟩
  have m1 : Ext w w1 := by rw [hw1]; exact ((Mods.refl _ w).alloc _).alloc _
  have hz : w1.heap.size = w.heap.size + 2 := by rw [hw1]; simp
  have hN : Nxt P P F (fun k => F k ∨ (w.heap.size ≤ k ∧ k < w1.heap.size)) ad w w1 := Nxt.new hL hP (Q := fun k => w.heap.size ≤ k ∧ k < w1.heap.size) m1 (fun k hk => hk.1) (fun k hk => hk.2)
  have HB := Lib.hid (show VarR (fun k => F k ∨ (w.heap.size ≤ k ∧ k < w1.heap.size)) P w w1 w.heap.size #[.pointer (some ⟨c, 0, none⟩), .pointer (some ⟨s, 0, none⟩), .int .u64 (gen : Int)] 48 from ⟨by rw [hw1]; exact (Blk.new w _ _).alloc _, .inr ⟨by omega, by omega⟩, fun hp => by have := h.bd _ hp; omega, by omega⟩)
  have HR := Lib.hid (show VarR (fun k => F k ∨ (w.heap.size ≤ k ∧ k < w1.heap.size)) P w w1 (w.heap.size + 1) remZc 178 from ⟨by rw [hw1]; exact heap_at (by simp), .inr ⟨by omega, by omega⟩, fun hp => by have := h.bd _ hp; omega, by omega⟩)
  have hG := h.plusNew hP (Q := fun k => w.heap.size ≤ k ∧ k < w1.heap.size) m1 (fun k hk => hk.1)
  have HLD := load_any hN.env hN.sub hG gen (id : Int) hk
  rw [hld] at HLD
  unfold pgV at HLD
  have HLD := HLD.mono (R' := PgDone (fun k => F k ∨ (w.heap.size ≤ k ∧ k < w1.heap.size)) P ad w1 c s G l (fun F' w' e => ∃ (ea : Option Addr) (ec : Nat) (ka : Option Addr) (kc : Nat) (ia : Option Addr) (ic : Nat), e = .returned (.tuple #[.agg #[.bool true, .slice ea 1 ec, .slice ka 0 kc, .slice ia 0 ic], .nilIface]) ∧ Sl F' w' 4 encE (.slice ea 1 ec) (leaf1 key v).entries ∧ Sl F' w' 1 encS (.slice ka 0 kc) (leaf1 key v).keys ∧ Sl F' w' 1 encI (.slice ia 0 ic) (leaf1 key v).kids)) (by
    rintro e w2 ⟨P2, F2, hG2, hN2, ve, vk, vi, rfl, hse, hsk, hsi⟩
    obtain ⟨ea, ec, rfl, _, _, _, _⟩ := _root_.id hse
    obtain ⟨ka, kc, rfl, _, _, _, _⟩ := _root_.id hsk
    obtain ⟨ia, ic, rfl, _, _, _, _⟩ := _root_.id hsi
    exact ⟨P2, F2, hG2, hN2, ea, ec, ka, kc, ia, ic, rfl, hse, hsk, hsi⟩)
  have HLD := Lib.hid HLD
  have HN := Lib.hid hN
  have HW1 := Lib.hid hw1
  have b0 := HB.out.blk.cell (o := 0) rfl
  have b1 := HB.out.blk.cell (o := 1) rfl
  have b2 := HB.out.blk.cell (o := 2) rfl
  unfold pgV
  clear hL hP h hk hld m1 hw1 hN hG
  go_enter Tryz.func109, Tryz.ntmps109
  go_wp2_with fail
  rw [← HW1.out]
  refine HLD.out.mono ?_
  rintro e w2 ⟨P2, F2, hG2, hN2, ea, ec, ka, kc, ia, ic, rfl, hse, hsk, hsi⟩
  obtain ⟨w3, hw3⟩ : ∃ w3, w3 = w2.alloc (.cells #[.bool true, .slice ea 1 ec, .slice ka 0 kc, .slice ia 0 ic] 26) := ⟨_, rfl⟩
  have m3 : Ext w2 w3 := by rw [hw3]; exact (Mods.refl _ _).alloc _
  have HPL := pull1_any (c := c) (s := s) gen key v _ _ _ (hse.ext m3) (hsk.ext m3) (hsi.ext m3)
  have HPL := Lib.hid (show Calls Tryz.prog 167 #[.agg #[.pointer (some ⟨c, 0, none⟩), .pointer (some ⟨s, 0, none⟩), .int .u64 (gen : Int)], .agg #[.bool true, .slice ea 1 ec, .slice ka 0 kc, .slice ia 0 ic], .string key] w3 _ from HPL)
  have HR3 := Lib.hid ((HR.out.nxt hN2).ext m3)
  have hB3 := (HB.out.nxt hN2).ext m3
  have b0 := hB3.blk.cell (o := 0) rfl
  have b1 := hB3.blk.cell (o := 1) rfl
  have b2 := hB3.blk.cell (o := 2) rfl
  have hX := Blk.new w2 #[.bool true, .slice ea 1 ec, .slice ka 0 kc, .slice ia 0 ic] 26
  rw [← hw3] at hX
  have x0 := hX.cell (o := 0) rfl
  have x1 := hX.cell (o := 1) rfl
  have x2 := hX.cell (o := 2) rfl
  have x3 := hX.cell (o := 3) rfl
  have HG3 := Lib.hid (hG2.at m3)
  have HN3 := Lib.hid ((HN.out.trans hN2).trans (Nxt.ext hN2.env hN2.sub m3))
  clear hse hsk hsi hB3 hX hG2 hN2 m3
  subst hw3
  go_wp2_with fail
  refine HPL.out.mono ?_
  rintro e w4 ⟨⟨a4, c4, k4, d4, i4, j4, rfl⟩, hm4⟩
  have hR4 := HR3.out.ext hm4
  have r0 := hR4.blk.cell (o := 0) rfl
  have r1 := hR4.blk.cell (o := 1) rfl
  have r2 := hR4.blk.cell (o := 2) rfl
  have r3 := hR4.blk.cell (o := 3) rfl
  have r4 := hR4.blk.cell (o := 4) rfl
  have rf := hR4.blk.frozen
  have HR4 := Lib.hid hR4
  have HG4 := Lib.hid (HG3.out.at hm4)
  have HN4 := Lib.hid (HN3.out.trans (Nxt.ext HN3.out.env HN3.out.sub hm4))
  clear hR4 hm4
  go_wp2_with fail
  have mR := Mods.set5 (F := fun k => k = w.heap.size + 1) (Mods.refl _ w4) (R := w.heap.size + 1) (.inr rfl) (.bool true) (.slice a4 0 c4) (.slice k4 0 d4) (.slice i4 0 j4) (.bool true)
  have bR := HR4.out.blk.set5 (.bool true) (.slice a4 0 c4) (.slice k4 0 d4) (.slice i4 0 j4) (.bool true)
  refine bodyPost_ret (results_row_tmp rfl _ _ (w.heap.size + 1) 178 _ _ rfl bR Tryz.underlying178 rfl Tryz.remSz) rfl ?_
  exact ⟨P2, F2, HG4.out.var HR4.out mR, HN4.out.var HR4.out mR, _, _, _, _, _, _, rfl⟩
set_option maxRecDepth 100000 in
theorem remSettle0_any (hL : Env F ad w) (hP : ∀ k, P k → F k) (h : PgR F w P c s G l) (gen id : Nat) (hgv : (spGive l (id : Int)).2 = none) (ea : Option Addr) (ec : Nat) (vk vi : Value) :
    Calls Tryz.prog 110 #[pgV c s gen, .int .i64 (id : Int), .agg #[.bool true, .slice ea 0 ec, vk, vi]] w (PgDone F P ad w c s (G.drop id) (spGive l (id : Int)).1 (fun _ _ e => e = .returned (.tuple #[.int .i64 0, .nilIface]))) := by
  have m0 : Ext w ((w.alloc (.cells #[.pointer (some ⟨c, 0, none⟩), .pointer (some ⟨s, 0, none⟩), .int .u64 (gen : Int)] 48)).alloc (.cells #[.bool true, .slice ea 0 ec, vk, vi] 26)) := ((Mods.refl _ w).alloc _).alloc _
  have HN0 := Lib.hid (Nxt.ext hL hP m0)
  have HGN := gone_any HN0.out.env HN0.out.sub (h.at m0) gen id
  rw [hgv] at HGN
  unfold pgV at HGN ⊢
  have HGN := Lib.hid HGN
  clear hL hP h m0 hgv
  go_enter Tryz.func110, Tryz.ntmps110
  go_wp2_with fail
  refine HGN.out.mono ?_
  rintro e w1 ⟨P1, F1, hG1, hN1, ev, rfl, hev⟩
  cases hev
  have HG1 := Lib.hid hG1
  have HN1 := Lib.hid (HN0.out.trans hN1)
  clear hG1 hN1
  go_wp2_with fail
  go_ret2
  exact ⟨P1, F1, HG1.out, HN1.out, rfl⟩
end
end Go.Proofs.YtpjpldedebddgaaGreatDoor
