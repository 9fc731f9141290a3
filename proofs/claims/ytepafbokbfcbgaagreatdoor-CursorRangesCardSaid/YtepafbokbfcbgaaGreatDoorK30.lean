/- lookup.find. | What stands while lookup.Walk walks; walker.see; corrupt. | walker.young. | The walker beside its pager. | lookup.find, walked. -/
import Derived.Test.YtepafbokbfcbgaaGreatDoorK29
import Derived.Test.YtepafbokbfcbgaaGreatDoorK17
import Derived.Test.YtepafbokbfcbgaaGreatDoorK24
import Derived.Test.YtepafbokbfcbgaaGreatDoorK22
import Derived.Maps.OwnOps
import Derived.Maps.Views
import Derived.BigQuiet
import Derived.Deep.RegionHeld3
namespace Go.Proofs.YtepafbokbfcbgaaGreatDoor
open Go.RowKit
attribute [local go_sem ↓] Go.wp_at_zero Go.wp_at_succ
def encSt (x : Int × Nat) : List Value := [.int .i64 x.1, .int .i64 (x.2 : Int)]
theorem encSt_ok : EncOk encSt 2 := ⟨fun _ => rfl, by intro x u hu; simp [encSt] at hu; rcases hu with rfl | rfl <;> rfl⟩
theorem Tryz.mkSt : (Tryz.prog.info? 197).map (fun i => (i.zero, i.size, i.bytes)) = some (some (.agg #[.int .i64 0, .int .i64 0]), 2, 16) := by kernel_rfl
theorem Tryz.elSt : ElT Tryz.prog 177 197 (.agg #[.int .i64 0, .int .i64 0]) 2 16 := ⟨Tryz.underlying177, Tryz.mkSt, rfl, by decide, by decide⟩
theorem kid_cell {F2 : Nat → Prop} {w2 w4 : World} {b off : Nat} {l : List Int} (h : l = [] ∨ ∃ b' off', some (⟨b, off, none⟩ : Addr) = some ⟨b', off', none⟩ ∧ b' < w2.heap.size ∧ ¬ F2 b' ∧ ∀ i x, l[i]? = some x → ∀ j u, (encI x)[j]? = some u → w2.cell? ⟨b', off' + i * 1 + j, none⟩ = some u) (m : Mods F2 w2 w4) {k : Nat} (hk : k < l.length) {z : Int} (hz : z = l[k]) :
    w4.cell? ⟨b, off + k, none⟩ = some (.int .i64 z) := by
  obtain ⟨b', off', hbb, _, _, hc⟩ := Sl.at h m (fun _ _ h => h) k hk
  injection hbb with hbb
  injection hbb with h1 h2
  subst h1 h2
  have := hc 0 (.int .i64 l[k]) rfl
  rw [hz]
  simpa using this
/-- the steps and a leaf, or why there is none. -/
def FindRes (F : Nat → Prop) (ad : Nat → Addr) (w' : World) (r : (List (Int × Nat) × NodeA) ⊕ Err) (e : Ending) : Prop :=
  match r with
  | .inl (st, n) => ∃ sv ve vk vi, e = .returned (.tuple #[sv, .agg #[.bool n.leaf, ve, vk, vi], .nilIface]) ∧ Sl F w' 2 encSt sv st ∧ Sl F w' 4 encE ve n.entries ∧ Sl F w' 1 encS vk n.keys ∧ Sl F w' 1 encI vi n.kids
  | .inr (l, k) => ∃ f, e = .returned (.tuple #[.slice none 0 0, nodeZ, faultV f]) ∧ ErrC F ad w' (faultV f) l k
theorem findN_lt {n : NodeA} (hr : rightN n = true) (hl : n.leaf = false) (key : ByteArray) : (findN n key).1 < n.kids.length := by
  rw [findN_inner hl]
  have := (rightN_inner hr hl).2.1
  have h2 : kidAt key n.keys ≤ n.keys.length := List.findIdx_le_length
  simp only
  omega
/-- the results: a value, a struct in a variable, and another value. -/
theorem results_tmp_row_tmp {P : Program} {fn : Func} {p u q : Tmp} {ty : TypeId} (h : fn.results = #[.tmp q, .cell p ty, .tmp u]) (tmps : Array Value) (w : World) (g : Nat) (t : TypeId) (cs : Array Value) (d : TypeDesc)
    (hp : tmps.getD p undef = .pointer (some ⟨g, 0, none⟩)) (hg : Blk w g cs t)
    (hu : P.underlying ty = some d) (hd : (match d with | .struct _ | .array _ _ => true | _ => false) = true) (hi : (P.info? ty).map (·.size) = some cs.size) :
    (results fn tmps).run P w = .ok (.tuple #[tmps.getD q undef, .agg cs, tmps.getD u undef]) w := by
  have hg' : w.heap[g]? = some (.cells cs t (0, 0)) := hg
  have e : (results fn tmps).run P w = ((asAddr (tmps.getD p undef)).run P w).andThen fun a w₁ => ((loadVar ty a).run P w₁).andThen fun v w₂ => .ok (.tuple #[tmps.getD q undef, v, tmps.getD u undef]) w₂ := by
    simp only [results, h]
    simp [Sem.run_bind, Result.andThen]
  rw [e, hp]
  simp [asAddr, run_loadVar_row w g t ty cs (0, 0) d hg' hu hd hi]
section
variable {P P' P1 P2 F F' F1 F2 Q : Nat → Prop} {ad : Nat → Addr} {w w' wr w2 : World} {c s : Nat} {G : GA} {l : List Nat} {v v' : Value} {st st' : List (Int × Nat)} {gen : Nat}
theorem PgR.anti (h : PgR F w P c s G l) (hQ : ∀ k, Q k → F k) : PgR Q w P c s G l :=
  h.plus (Q := fun _ => False) (Mods.refl _ w) (fun _ _ f => f) (fun _ f => f.elim) (fun k _ hn hq => hn (hQ k hq))
/-- just the footprint is left of what was left alone besides. -/
theorem Nxt.least (n : Nxt P P' F F' ad w w') : Nxt P P' F (fun k => F k ∨ P' k) ad w w' :=
  ⟨n.stp, fun _ h => .inr h, fun _ h => .inl h, fun k hk h => h.elim id (fun h => n.oldF k hk (n.sub k h)), n.env.anti (fun k h => h.elim (n.grow k) (n.sub k))⟩
/-- while find looks. -/
structure FiS (F P : Nat → Prop) (ad : Nat → Addr) (w : World) (c s gen : Nat) (G : GA) (l : List Nat) (F1 P1 : Nat → Prop) (wr : World) (v : Value) (st : List (Int × Nat)) : Prop where
  pg : PgR F1 wr P1 c s G l
  nx : Nxt P P1 F F1 ad w wr
  row : LocR w F1 P1 wr 197 2 encSt v st
  box : Blk wr w.heap.size #[.pointer (some ⟨c, 0, none⟩), .pointer (some ⟨s, 0, none⟩), .int .u64 (gen : Int)] 34
  boxP : ¬ P1 w.heap.size
  res : Blk wr (w.heap.size + 1) #[.bool false, .slice none 0 0, .slice none 0 0, .slice none 0 0] 134
  resP : ¬ P1 (w.heap.size + 1)
  resF : F1 (w.heap.size + 1)
theorem FiS.nxt (h : FiS F P ad w c s gen G l F1 P1 wr v st) (n : Nxt P1 P2 F1 F2 ad wr w2) (g : PgR F2 w2 P2 c s G l) : FiS F P ad w c s gen G l F2 P2 w2 v st :=
  ⟨g, h.nx.trans n, h.row.nxt n, n.blk h.box h.boxP, n.not h.box.lt h.boxP, n.blk h.res h.resP, n.not h.res.lt h.resP, n.grow _ h.resF⟩
theorem FiS.ext (h : FiS F P ad w c s gen G l F1 P1 wr v st) (m : Ext wr w2) : FiS F P ad w c s gen G l F1 P1 w2 v st :=
  h.nxt (Nxt.ext h.nx.env h.nx.sub m) (h.pg.at m)
theorem FiS.app (h : FiS F P ad w c s gen G l F1 P1 wr v st) (ho : Own (fun _ => False) w2 w.heap.size 197 2 encSt v' st') (m : Mods (fun k => v.ownBlock = some k) wr w2) (hat : v'.ownBlock = v.ownBlock ∨ v'.ownBlock = some wr.heap.size) :
    FiS F P ad w c s gen G l (plusV F1 v') P1 w2 v' st' := by
  obtain ⟨n, r⟩ := LocR.app h.nx h.row ho m hat (Nat.le_refl _)
  exact ⟨h.pg.app h.row m hat (Nat.le_refl _), n, r, h.box.mods m (fun e => Own.notB h.row.1 h.box (by decide) _ e rfl), h.boxP, h.res.mods m (fun e => Own.notB h.row.1 h.res (by decide) _ e rfl), h.resP, .inl h.resF⟩
end
end Go.Proofs.YtepafbokbfcbgaaGreatDoor
namespace Go.Proofs.YtepafbokbfcbgaaGreatDoor
open Go.RowKit Go.Maps
attribute [local go_sem ↓] Go.wp_at_zero Go.wp_at_succ
/-- an int. -/
def IntOk (i : Int) : Prop := (Lit.int .i64 i).wf = true
/-- the map of what was seen: each page once. -/
def SeenM (w : World) (mb : Nat) (ps : List Int) : Prop :=
  ∃ D : DataW Unit, w.ownsMap Tryz.prog 3 (plainElem Tryz.prog 3) mb ps.length D ∧ IsMap D ∧ ∀ i, D.atKey (.int .i64 i) (.lit (.int .i64 0)) = .lit (.int .i64 (if i ∈ ps then 1 else 0))
section
variable {F P P' F' P1 F1 : Nat → Prop} {ad : Nat → Addr} {w w' w0 : World} {c s gen kb mb : Nat} {G : GA} {l : List Nat} {pv kv pv' kv' : Value} {st st' : WkS} {ps : List Int}
theorem SeenM.made (w : World) : SeenM (w.alloc (.map #[] 0)) w.heap.size [] :=
  ⟨.map [], World.ownsMap_made w _ _ _, isMap_empty, fun _ => rfl⟩
theorem SeenM.lt (h : SeenM w mb ps) : mb < w.heap.size := by obtain ⟨D, h, _⟩ := h; exact h.lt
theorem SeenM.mods {Q : Nat → Prop} (h : SeenM w mb ps) (m : Mods Q w w') (hq : ¬ Q mb) : SeenM w' mb ps := by
  obtain ⟨D, ⟨es, clock, h1, h2⟩, h3⟩ := h
  exact ⟨D, ⟨es, clock, (m.block mb (Array.getElem?_eq_some_iff.1 h1).1 hq).trans h1, h2⟩, h3⟩
theorem SeenM.put {D : DataW Unit} {i : Int} (h : ∀ j, D.atKey (.int .i64 j) (.lit (.int .i64 0)) = .lit (.int .i64 (if j ∈ ps then 1 else 0))) (hD : IsMap D) :
    ∀ j, (D.put (.int .i64 i) (.lit (.int .i64 1))).atKey (.int .i64 j) (.lit (.int .i64 0)) = .lit (.int .i64 (if j ∈ ps ++ [i] then 1 else 0)) := by
  intro j
  by_cases hj : j = i
  · subst hj
    rw [atKey_put_same hD (by trivial), if_pos (by simp)]
  · rw [atKey_put_other (by intro e; injection e with _ e; exact hj e), h j]
    by_cases hm : j ∈ ps
    · rw [if_pos hm, if_pos (by simp [hm])]
    · rw [if_neg hm, if_neg (by simp [hm, hj])]
/-- the walker's own blocks. -/
def WkB (kb mb : Nat) (pv kv : Value) : Nat → Prop := fun k => k = kb ∨ k = mb ∨ pv.ownBlock = some k ∨ kv.ownBlock = some k
/-- the walker, and what it has seen. -/
structure WkR (F P : Nat → Prop) (w : World) (base c s gen kb mb : Nat) (pv kv : Value) (st : WkS) : Prop where
  blk : Blk w kb #[.pointer (some ⟨c, 0, none⟩), .pointer (some ⟨s, 0, none⟩), .int .u64 (gen : Int), .map (some mb), pv, kv, .int .i64 (st.depth : Int), .string st.last] 114
  seen : SeenM w mb st.pages
  rp : Own (fun _ => False) w base 3 1 encI pv st.pages
  rk : Own (fun _ => False) w base 9 1 encS kv st.keys
  nP : ∀ k, WkB kb mb pv kv k → F k ∧ ¬ P k
  few : st.pages.length ≤ 1000 ∧ st.keys.length ≤ 1000000
theorem Tryz.seenU : Tryz.prog.underlying 112 = some (.map 3 3) := by kernel_rfl
theorem Tryz.intKeyed : Keyed Tryz.prog 3 := int_keyed Tryz.underlying3
theorem Tryz.intZero (w : World) : (zeroValue 3).run Tryz.prog w = .ok (.int .i64 0) w := by kernel_rfl
theorem Blk.notM {cs : Array Value} {t : TypeId} {b : Nat} (h : Blk w b cs t) (hs : SeenM w mb ps) : b ≠ mb := by
  obtain ⟨D, ⟨es, clock, h1, _⟩, _⟩ := hs
  rintro rfl
  have h2 : w.heap[b]? = some (.cells cs t (0, 0)) := h
  rw [h1] at h2
  cases h2
theorem Own.notM {α : Type} {Q : Nat → Prop} {base sz : Nat} {e : TypeId} {enc : α → List Value} {v : Value} {x : List α} (h : Own Q w base e sz enc v x) (hs : SeenM w mb ps) : ∀ g, v.ownBlock = some g → g ≠ mb := by
  obtain ⟨D, ⟨es, clock, h1, _⟩, _⟩ := hs
  rintro g hg rfl
  rcases h.1.2 with ⟨rfl, _⟩ | ⟨g', cap, cur, rfl, _, hg', _⟩
  · simp [Value.ownBlock] at hg
  · simp [Value.ownBlock] at hg
    subst hg
    rw [h1] at hg'
    cases hg'
theorem Own.notO {α β : Type} {Q Q' : Nat → Prop} {base base' sz sz' : Nat} {e e' : TypeId} {enc : α → List Value} {enc' : β → List Value} {v v' : Value} {x : List α} {x' : List β} (h : Own Q w base e sz enc v x) (h' : Own Q' w base' e' sz' enc' v' x') (hne : e ≠ e') : ∀ g, v.ownBlock = some g → v'.ownBlock ≠ some g := by
  intro g hg hg2
  rcases h.1.2 with ⟨rfl, _⟩ | ⟨g1, cap, cur, rfl, _, k1, _⟩
  · simp [Value.ownBlock] at hg
  · rcases h'.1.2 with ⟨rfl, _⟩ | ⟨g2, cap2, cur2, rfl, _, k2, _⟩
    · simp [Value.ownBlock] at hg2
    · simp [Value.ownBlock] at hg hg2
      subst hg hg2
      rw [k1] at k2
      injection k2 with k2
      injection k2 with _ k2
      exact hne k2
theorem corrupt_any (hL : Env F ad w) (id : Int) : Calls Tryz.prog 86 #[.int .i64 id] w fun e w' => ∃ b, e = .returned (faultV b) ∧ ErrC F ad w' (faultV b) (corrE id).1 (corrE id).2 ∧ Ext w w' := by
  have HL := Lib.hid hL
  have c5 := hL.c5
  have HA := Lib.hid (fun op => at_any hL op id _ _ _ (ErrC.sent 5 (by omega) (by omega)))
  clear hL
  go_enter Tryz.func86, Tryz.ntmps86
  go_wp2_with fail
  refine (HA.out _).mono ?_
  rintro e w1 ⟨b, rfl, hE, hm⟩
  have HE := Lib.hid hE
  have HM := Lib.hid hm
  clear hE hm
  go_wp2_with fail
  go_ret
  exact ⟨b, rfl, HE.out, HM.out⟩
/-- behind see. -/
def SeeD (F P : Nat → Prop) (ad : Nat → Addr) (w : World) (base c s gen kb mb : Nat) (pv kv : Value) (st : WkS) (id : Int) (e : Ending) (w' : World) : Prop :=
  match seeW st id with
  | .inr (el, ek) => ∃ f, e = .returned (faultV f) ∧ ErrC F ad w' (faultV f) el ek ∧ Ext w w'
  | .inl st1 => ∃ pv', e = .returned .nilIface ∧ WkR (plusV F pv') P w' base c s gen kb mb pv' kv st1 ∧ Mods (WkB kb mb pv kv) w w' ∧ (pv'.ownBlock = pv.ownBlock ∨ ∃ K, w.heap.size ≤ K ∧ pv'.ownBlock = some K)
set_option maxRecDepth 100000 in
set_option maxHeartbeats 1000000 in
theorem see_any (hL : Env F ad w) (hP : ∀ k, P k → F k) {base : Nat} (hb : base ≤ w.heap.size) (h : WkR F P w base c s gen kb mb pv kv st) (id : Int) (hid : IntOk id) (hfew : st.pages.length < 1000) :
    Calls Tryz.prog 87 #[.pointer (some ⟨kb, 0, none⟩), .int .i64 id] w (SeeD F P ad w base c s gen kb mb pv kv st id) := by
  obtain ⟨D, h1, h2, h3⟩ := h.seen
  have HW := Lib.hid h
  have HL := Lib.hid hL
  have HP := Lib.hid hP
  have HS := Lib.hid h1
  have HB := Lib.hid hb
  have HI := Lib.hid h2
  have H3 := Lib.hid h3
  have hkey : keyOf Tryz.prog 3 (.int .i64 id) = some (.int .i64 id) := keyOf_int_mk Tryz.underlying3 hid
  obtain ⟨cc, hrun, hat, hwf⟩ := h1.lookup_int Tryz.intKeyed Tryz.seenU Tryz.underlying3 (Tryz.intZero w) hkey
  rw [h3 id] at hat
  have HCR := Lib.hid (corrupt_any hL id)
  obtain ⟨pa, pc, rfl, -, -⟩ := _root_.id h.rp.form
  have k1 := h.blk.cell (o := 3) (v := .map (some mb)) rfl
  have HNE := Lib.hid (Blk.notM h.blk h.seen)
  by_cases hm : id ∈ st.pages
  · rw [if_pos hm] at hat
    obtain rfl : cc = 1 := by injection hat with e; injection e with _ e; exact e.symm
    have HV : Hid (seeW st id = .inr (corrE id)) := Lib.hid (by unfold seeW; rw [if_pos hm])
    clear hat h h1 hL hP hb h2 h3 hm
    go_enter Tryz.func87, Tryz.ntmps87
    go_wp2_with fail
    refine (HCR.out).mono ?_
    rintro e w1 ⟨f, rfl, hE, hm⟩
    have HE := Lib.hid hE
    have HM := Lib.hid hm
    clear hE hm
    go_wp2_with fail
    go_ret
    unfold SeeD
    rw [HV.out]
    exact ⟨f, rfl, HE.out, HM.out⟩
  · rw [if_neg hm] at hat
    obtain rfl : cc = 0 := by injection hat with e; injection e with _ e; exact e.symm
    have HV : Hid (seeW st id = .inl { st with pages := st.pages ++ [id] }) := Lib.hid (by unfold seeW; rw [if_neg hm])
    obtain ⟨n, hn⟩ : ∃ n, n = st.pages.length := ⟨_, rfl⟩
    have HN := Lib.hid hn
    clear hat h h1 hL hP hb h2 h3 hm hn
    have hfew' : n < 1000 := by have := HN.out; omega
    clear hfew
    go_enter Tryz.func87, Tryz.ntmps87
    have e1 : st.pages.length + [id].length = n + 1 := by have := HN.out; simp; omega
    go_wp2_with (first
      | (at_mapUpdate; refine wpList_mapUpdate_own _ rfl _ _ _ 112 rfl 3 3 Tryz.intKeyed Tryz.seenU _ mb st.pages.length D rfl HS.out (by have := HN.out; simp [maxLen]; omega) _ _ (.int .i64 id) rfl rfl hkey (.lit (.int .i64 1)) [] (plainElem_int Tryz.underlying3 (by decide)) ?_; intro w1 hown1 hgrow1; have HG1 : Hid (w.grownBy w1 (some mb)) := Lib.hid hgrow1; have hB1 : Blk w1 kb #[.pointer (some ⟨c, 0, none⟩), .pointer (some ⟨s, 0, none⟩), .int .u64 (gen : Int), .map (some mb), .slice pa st.pages.length pc, kv, .int .i64 (st.depth : Int), .string st.last] 114 := (HW.out.blk.mods (Mods.of_grown hgrow1) (fun e => HNE.out (Option.some.inj e).symm)); have HB1 := Lib.hid hB1; have y4 := hB1.cell (o := 4) (v := .slice pa st.pages.length pc) rfl; have HO1 : Hid (Own (fun _ => False) w1 base 3 1 encI (.slice pa st.pages.length pc) st.pages) := Lib.hid (HW.out.rp.mods (Mods.of_grown hgrow1) (fun g hg e => Own.notM HW.out.rp HW.out.seen g hg (Option.some.inj e).symm)); have HM1 := Lib.hid hown1; clear hown1 hgrow1 hB1)
      | (at_builtin; refine wpl_app2 Tryz.elI encI_ok rfl _ _ rfl base (.slice pa st.pages.length pc) (.slice (some ⟨w1.heap.size, 0, none⟩) 1 1) st.pages [id] rfl rfl (HO1.out.ext ((Mods.refl _ _).alloc _)) (Sl.one (F := fun _ => False) (x := id) (t := 3) (fz := (0, 0)) (heap_at rfl) (fun f => f)) (by have := HN.out; simp; omega) (Nat.le_trans (Nat.le_trans HB.out HG1.out.size) (by simp)) (fun f => f) ?_; intro a' c' w4 hown4 hmod4 hat4; rw [e1] at hown4 hat4 ⊢; have hB4 := (HB1.out.alloc (.cells #[.int .i64 id] 3)).mods hmod4 (fun e => Own.notB HO1.out HB1.out (by decide) _ e rfl); have HB4 := Lib.hid hB4; have z4 := hB4.cell (o := 4) (v := .slice pa st.pages.length pc) rfl; have zf := hB4.frozen; clear hB4)
      | fail)
    have hsz : w.heap.size ≤ (w1.alloc (.cells #[.int .i64 id] 3)).heap.size := Nat.le_trans HG1.out.size (by simp)
    have HF : Hid (WkR (plusV F (.slice a' (n + 1) c')) P (w4.setCell ⟨kb, 4, none⟩ (.slice a' (n + 1) c')) base c s gen kb mb (.slice a' (n + 1) c') kv { st with pages := st.pages ++ [id] } ∧ Mods (WkB kb mb (.slice pa st.pages.length pc) kv) w (w4.setCell ⟨kb, 4, none⟩ (.slice a' (n + 1) c')) ∧ ((Value.slice a' (n + 1) c').ownBlock = (Value.slice pa st.pages.length pc).ownBlock ∨ ∃ K, w.heap.size ≤ K ∧ (Value.slice a' (n + 1) c').ownBlock = some K)) := Lib.hid (by
      have g1 := Mods.of_grown HG1.out
      have g5 : Mods (fun k => k = kb) w4 (w4.setCell ⟨kb, 4, none⟩ (.slice a' (n + 1) c')) := Mods.setCell (F := fun k => k = kb) (p := ⟨kb, 4, none⟩) (Mods.refl _ w4) (.inr rfl) _
      have m4 : Mods (WkB kb mb (.slice pa st.pages.length pc) kv) w w4 := ((g1.mono (fun k e => .inr (.inl (Option.some.inj e).symm))).alloc (.cells #[.int .i64 id] 3)).trans (hmod4.mono (fun k e => .inr (.inr (.inl e))))
      have m1 : Mods (fun k => k = kb ∨ (Value.slice pa st.pages.length pc).ownBlock = some k) w1 (w4.setCell ⟨kb, 4, none⟩ (.slice a' (n + 1) c')) := (((Mods.refl _ w1).alloc (.cells #[.int .i64 id] 3)).trans (hmod4.mono (fun k e => .inr e))).setCell (p := ⟨kb, 4, none⟩) (.inr (.inl rfl)) _
      have s1 : SeenM w1 mb (st.pages ++ [id]) := ⟨_, by rw [List.length_append]; exact HM1.out, HI.out.put _ _, SeenM.put H3.out HI.out⟩
      have rk1 := (HW.out.rk.mods g1 (fun g hg e => Own.notM HW.out.rk HW.out.seen g hg (Option.some.inj e).symm)).ext ((Mods.refl _ w1).alloc (.cells #[.int .i64 id] 3))
      have rk4 := rk1.mods hmod4 (fun g hg e => Own.notO HW.out.rk HW.out.rp (by decide) g hg e)
      refine ⟨⟨HB4.out.set 4 _, s1.mods m1 ?_, hown4.mods g5 (fun g hg e => Own.notB hown4 HB4.out (by decide) g hg e), rk4.mods g5 (fun g hg e => Own.notB rk4 HB4.out (by decide) g hg e), ?_, ?_⟩, m4.setCell (p := ⟨kb, 4, none⟩) (.inr (.inl rfl)) _, ?_⟩
      · rintro (e | e)
        · exact HNE.out e.symm
        · exact Own.notM HW.out.rp HW.out.seen _ e rfl
      · rintro k (e | e | e | e)
        · exact ⟨.inl (HW.out.nP k (.inl e)).1, (HW.out.nP k (.inl e)).2⟩
        · exact ⟨.inl (HW.out.nP k (.inr (.inl e))).1, (HW.out.nP k (.inr (.inl e))).2⟩
        · refine ⟨.inr e, fun hp => ?_⟩
          rcases hat4 with h5 | h5
          · exact (HW.out.nP k (.inr (.inr (.inl (h5 ▸ e))))).2 hp
          · rw [h5] at e
            injection e with e
            have := HL.out.lt k (HP.out k hp)
            omega
        · exact ⟨.inl (HW.out.nP k (.inr (.inr (.inr e)))).1, (HW.out.nP k (.inr (.inr (.inr e)))).2⟩
      · have := HW.out.few
        have := HN.out
        simp only [List.length_append, List.length_cons, List.length_nil]
        omega
      · rcases hat4 with h5 | h5
        · exact .inl h5
        · exact .inr ⟨_, hsz, h5⟩)
    clear hmod4 hat4 hown4 hsz
    go_ret
    unfold SeeD
    rw [HV.out]
    exact ⟨_, rfl, HF.out⟩
end
end Go.Proofs.YtepafbokbfcbgaaGreatDoor
namespace Go.Proofs.YtepafbokbfcbgaaGreatDoor
open Go.RowKit Go.Maps
attribute [local go_sem ↓] Go.wp_at_zero Go.wp_at_succ
section
variable {F P P' F' P1 F1 : Nat → Prop} {ad : Nat → Addr} {w w' w0 : World} {c s gen kb mb : Nat} {G : GA} {l : List Nat} {pv kv pv' kv' : Value} {st st' : WkS} {ps : List Int}
/-- what young answers. -/
def YoungRes (F : Nat → Prop) (ad : Nat → Addr) (w' : World) (r : PageA ⊕ Err) (e : Ending) : Prop :=
  match r with
  | .inl p => ∃ a n, e = .returned (.tuple #[.agg #[.int .i64 p.kind, .int .i64 p.id, .int .u64 (p.gen : Int), .slice a p.body.length n], .nilIface]) ∧ Sl F w' 1 encB (.slice a p.body.length n) p.body ∧ p.body.length ≤ 1000
  | .inr (el, ek) => ∃ (x0 x1 x2 : Int) (a : Option Addr) (n m : Nat) (f : Nat), e = .returned (.tuple #[.agg #[.int .i64 x0, .int .i64 x1, .int .u64 x2, .slice a n m], faultV f]) ∧ ErrC F ad w' (faultV f) el ek
theorem Tryz.pgSize : (Tryz.prog.info? 91).map (·.size) = some 4 := by kernel_rfl
set_option maxRecDepth 100000 in
set_option maxHeartbeats 1000000 in
theorem young_any (hL : Env F ad w) (hP : ∀ k, P k → F k) (h : PgR F w P c s G l) {cs : Array Value} (hB : Blk w kb cs 114) (h0 : cs[0]? = some (.pointer (some ⟨c, 0, none⟩))) (h2 : cs[2]? = some (.int .u64 (gen : Int))) (hkb : ¬ P kb) (id : Int) (hk : G.knows id) :
    Calls Tryz.prog 88 #[.pointer (some ⟨kb, 0, none⟩), .int .i64 id] w (PgDone F P ad w c s G l (fun F' w' e => YoungRes F' ad w' (youngW G gen id) e)) := by
  have m0 : Ext w (w.alloc (.cells #[.int .i64 0, .int .i64 0, .int .u64 0, .slice none 0 0] 91)) := (Mods.refl _ w).alloc _
  have HM0 := Lib.hid m0
  have HB0 := Lib.hid (hB.ext m0)
  have hRP : ¬ P w.heap.size := fun hp => by have := h.bd _ hp; omega
  have HRP := Lib.hid hRP
  have HR0 := Lib.hid (Blk.new w #[.int .i64 0, .int .i64 0, .int .u64 0, .slice none 0 0] 91)
  have HN1 : Hid (Nxt P P F (fun k => F k ∨ k = w.heap.size) ad w (w.alloc (.cells #[.int .i64 0, .int .i64 0, .int .u64 0, .slice none 0 0] 91))) := Lib.hid (Nxt.new hL hP (Q := fun k => k = w.heap.size) m0 (fun k hk => by omega) (fun k hk => by simp; omega))
  have HG1 : Hid (PgR (fun k => F k ∨ k = w.heap.size) (w.alloc (.cells #[.int .i64 0, .int .i64 0, .int .u64 0, .slice none 0 0] 91)) P c s G l) := Lib.hid (h.plusNew hP (Q := fun k => k = w.heap.size) m0 (fun k hk => by omega))
  have k0 := (hB.ext m0).cell h0
  have HKN := Lib.hid hk
  have H2 := Lib.hid h2
  have HKB := Lib.hid hkb
  clear hL hP h hB m0 hRP h0 hk h2
  go_enter Tryz.func88, Tryz.ntmps88
  go_wp2_with fail
  refine (pgGet HN1.out.env HN1.out.sub HG1.out id HKN.out).mono ?_
  rintro e w2 ⟨P2, F2, hG2, hN2, hres⟩
  have HG2 := Lib.hid hG2
  have HN2 := Lib.hid hN2
  have HR2 := Lib.hid (hN2.blk HR0.out HRP.out)
  have hB2 := hN2.blk HB0.out HKB.out
  have HB2 := Lib.hid hB2
  have k2 := hB2.cell H2.out
  have HRP2 : Hid (¬ P2 w.heap.size) := Lib.hid (hN2.not HR0.out.lt HRP.out)
  have HRF2 : Hid (F2 w.heap.size) := Lib.hid (hN2.grow _ (.inr rfl))
  clear hG2 hN2 hB2 k0
  rcases hres with ⟨x, xv, hx, rfl, hxv⟩ | ⟨er, f, hx, rfl, hE⟩
  · obtain ⟨hxi, _, hxl⟩ := HG2.out.got hx
    have HXV := Lib.hid hxv
    obtain ⟨xa, xc, rfl, -, -, -, -⟩ := _root_.id hxv
    unfold pageV
    have HX1 := Lib.hid (Blk.new w2 #[.int .i64 x.kind, .int .i64 x.id, .int .u64 (x.gen : Int), .slice xa x.body.length xc] 91)
    have HX2 : Hid (∀ q, Ext w2 ((w2.alloc (.cells #[.int .i64 x.kind, .int .i64 x.id, .int .u64 (x.gen : Int), .slice xa x.body.length xc] 91)).drewN q)) := Lib.hid (fun q => ((Mods.refl _ w2).alloc _).drewN q)
    have HXB : Hid (∀ q, Blk ((w2.alloc (.cells #[.int .i64 x.kind, .int .i64 x.id, .int .u64 (x.gen : Int), .slice xa x.body.length xc] 91)).drewN q) w2.heap.size #[.int .i64 x.kind, .int .i64 x.id, .int .u64 (x.gen : Int), .slice xa x.body.length xc] 91) := Lib.hid (fun _ => HX1.out)
    have k2 := (HB2.out.ext ((Mods.refl _ w2).alloc (.cells #[.int .i64 x.kind, .int .i64 x.id, .int .u64 (x.gen : Int), .slice xa x.body.length xc] 91))).cell H2.out
    have hne : w2.heap.size ≠ w.heap.size := by have := HR2.out.lt; omega
    have hne2 : w.heap.size ≠ w2.heap.size := fun e => hne e.symm
    by_cases hy : gen < x.gen
    · have HY : Hid (youngW G gen id = .inr (corrE id)) := Lib.hid (by unfold youngW; rw [hx]; simp only [if_pos hy])
      have hyi : (gen : Int) < (x.gen : Int) := by omega
      have HCR := Lib.hid (fun q => corrupt_any (HN2.out.env.mods (HX2.out q).ext) id)
      clear hx hxv hxi hy
      go_wp2_with fail
      go_quiet (fail)
      go_wp2_with fail
      refine (HCR.out _).mono ?_
      rintro e w3 ⟨f, rfl, hE, hm3⟩
      have HE := Lib.hid hE
      have HM3 := Lib.hid ((HX2.out _).trans hm3)
      have hX3 := (HXB.out _).ext hm3
      have hR3 := HR2.out.ext HM3.out
      have x0 := hX3.cell (o := 0) (v := .int .i64 x.kind) rfl
      have x1 := hX3.cell (o := 1) (v := .int .i64 x.id) rfl
      have x2 := hX3.cell (o := 2) (v := .int .u64 (x.gen : Int)) rfl
      have x3 := hX3.cell (o := 3) (v := .slice xa x.body.length xc) rfl
      have r0 := hR3.cell (o := 0) (v := .int .i64 0) rfl
      have r1 := hR3.cell (o := 1) (v := .int .i64 0) rfl
      have r2 := hR3.cell (o := 2) (v := .int .u64 0) rfl
      have r3 := hR3.cell (o := 3) (v := .slice none 0 0) rfl
      have rf := hR3.frozen
      have HR3 := Lib.hid hR3
      clear hE hm3 hX3 hR3
      go_wp2_with fail
      have HRB := Lib.hid (HR3.out.set4 (.int .i64 x.kind) (.int .i64 x.id) (.int .u64 (x.gen : Int)) (.slice xa x.body.length xc))
      have HMR := Lib.hid (Mods.set4 (F := fun k => k = w.heap.size) (Mods.refl _ (w3)) (R := w.heap.size) (.inr rfl) (.int .i64 x.kind) (.int .i64 x.id) (.int .u64 (x.gen : Int)) (.slice xa x.body.length xc))
      clear r0 r1 r2 r3 rf x0 x1 x2 x3
      go_wp2_with fail
      refine bodyPost_ret (results_row_tmp rfl _ _ w.heap.size 91 #[.int .i64 x.kind, .int .i64 x.id, .int .u64 (x.gen : Int), .slice xa x.body.length xc] _ rfl HRB.out Tryz.underlying91 rfl Tryz.pageSize) rfl ?_
      have HMF := HMR.out.mono (G := F2) (fun k hk => hk ▸ HRF2.out)
      refine ⟨P2, F2, (HG2.out.at (HM3.out)).res HMR.out HRP2.out HRF2.out, ((HN1.out.trans HN2.out).trans (Nxt.ext HN2.out.env HN2.out.sub (HM3.out))).resD HMR.out (by omega) HRF2.out, ?_⟩
      rw [HY.out]
      exact ⟨_, _, _, _, _, _, f, rfl, HE.out.mods HMF⟩
    · have HY : Hid (youngW G gen id = .inl x) := Lib.hid (by unfold youngW; rw [hx]; simp only [if_neg hy])
      have hyi : ¬ (gen : Int) < (x.gen : Int) := by omega
      have HXL := Lib.hid hxl
      clear hx hxv hxi hy hxl
      go_wp2_with fail
      go_quiet (fail)
      have hX3 := HXB.out nq
      have hR3 := HR2.out.ext (HX2.out nq)
      have x0 := hX3.cell (o := 0) (v := .int .i64 x.kind) rfl
      have x1 := hX3.cell (o := 1) (v := .int .i64 x.id) rfl
      have x2 := hX3.cell (o := 2) (v := .int .u64 (x.gen : Int)) rfl
      have x3 := hX3.cell (o := 3) (v := .slice xa x.body.length xc) rfl
      have r0 := hR3.cell (o := 0) (v := .int .i64 0) rfl
      have r1 := hR3.cell (o := 1) (v := .int .i64 0) rfl
      have r2 := hR3.cell (o := 2) (v := .int .u64 0) rfl
      have r3 := hR3.cell (o := 3) (v := .slice none 0 0) rfl
      have rf := hR3.frozen
      have HR3 := Lib.hid hR3
      clear hX3 hR3
      go_wp2_with fail
      have HRB := Lib.hid (HR3.out.set4 (.int .i64 x.kind) (.int .i64 x.id) (.int .u64 (x.gen : Int)) (.slice xa x.body.length xc))
      have HMR := Lib.hid (Mods.set4 (F := fun k => k = w.heap.size) (Mods.refl _ ((w2.alloc (.cells #[.int .i64 x.kind, .int .i64 x.id, .int .u64 (x.gen : Int), .slice xa x.body.length xc] 91)).drewN nq)) (R := w.heap.size) (.inr rfl) (.int .i64 x.kind) (.int .i64 x.id) (.int .u64 (x.gen : Int)) (.slice xa x.body.length xc))
      clear r0 r1 r2 r3 rf x0 x1 x2 x3
      go_wp2_with fail
      refine bodyPost_ret (results_row_tmp rfl _ _ w.heap.size 91 #[.int .i64 x.kind, .int .i64 x.id, .int .u64 (x.gen : Int), .slice xa x.body.length xc] _ rfl HRB.out Tryz.underlying91 rfl Tryz.pageSize) rfl ?_
      have HMF := HMR.out.mono (G := F2) (fun k hk => hk ▸ HRF2.out)
      refine ⟨P2, F2, (HG2.out.at (HX2.out nq)).res HMR.out HRP2.out HRF2.out, ((HN1.out.trans HN2.out).trans (Nxt.ext HN2.out.env HN2.out.sub (HX2.out nq))).resD HMR.out (by omega) HRF2.out, ?_⟩
      rw [HY.out]
      exact ⟨xa, xc, rfl, (HXV.out.ext (HX2.out nq)).mods HMF, HXL.out⟩
  · obtain ⟨el, ek⟩ := er
    have HY : Hid (youngW G gen id = .inr (el, ek)) := Lib.hid (by unfold youngW; rw [hx])
    have HE := Lib.hid hE
    unfold pageV zeroPage
    have HX1 := Lib.hid (Blk.new w2 #[.int .i64 0, .int .i64 0, .int .u64 0, .slice none 0 0] 91)
    have HX2 : Hid (∀ q, Ext w2 ((w2.alloc (.cells #[.int .i64 0, .int .i64 0, .int .u64 0, .slice none 0 0] 91)).drewN q)) := Lib.hid (fun q => ((Mods.refl _ w2).alloc _).drewN q)
    have HXB : Hid (∀ q, Blk ((w2.alloc (.cells #[.int .i64 0, .int .i64 0, .int .u64 0, .slice none 0 0] 91)).drewN q) w2.heap.size #[.int .i64 0, .int .i64 0, .int .u64 0, .slice none 0 0] 91) := Lib.hid (fun _ => HX1.out)
    have k2 := (HB2.out.ext ((Mods.refl _ w2).alloc (.cells #[.int .i64 0, .int .i64 0, .int .u64 0, .slice none 0 0] 91))).cell H2.out
    have hne : w2.heap.size ≠ w.heap.size := by have := HR2.out.lt; omega
    have hne2 : w.heap.size ≠ w2.heap.size := fun e => hne e.symm
    clear hx hE
    go_wp2_with fail
    go_quiet (fail)
    have hX3 := HXB.out nq
    have hR3 := HR2.out.ext (HX2.out nq)
    have x0 := hX3.cell (o := 0) (v := .int .i64 0) rfl
    have x1 := hX3.cell (o := 1) (v := .int .i64 0) rfl
    have x2 := hX3.cell (o := 2) (v := .int .u64 0) rfl
    have x3 := hX3.cell (o := 3) (v := .slice none 0 0) rfl
    have r0 := hR3.cell (o := 0) (v := .int .i64 0) rfl
    have r1 := hR3.cell (o := 1) (v := .int .i64 0) rfl
    have r2 := hR3.cell (o := 2) (v := .int .u64 0) rfl
    have r3 := hR3.cell (o := 3) (v := .slice none 0 0) rfl
    have rf := hR3.frozen
    have HR3 := Lib.hid hR3
    clear hX3 hR3
    go_wp2_with fail
    have HRB := Lib.hid (HR3.out.set4 (.int .i64 0) (.int .i64 0) (.int .u64 0) (.slice none 0 0))
    have HMR := Lib.hid (Mods.set4 (F := fun k => k = w.heap.size) (Mods.refl _ ((w2.alloc (.cells #[.int .i64 0, .int .i64 0, .int .u64 0, .slice none 0 0] 91)).drewN nq)) (R := w.heap.size) (.inr rfl) (.int .i64 0) (.int .i64 0) (.int .u64 0) (.slice none 0 0))
    clear r0 r1 r2 r3 rf x0 x1 x2 x3
    go_wp2_with fail
    refine bodyPost_ret (results_row_tmp rfl _ _ w.heap.size 91 #[.int .i64 0, .int .i64 0, .int .u64 0, .slice none 0 0] _ rfl HRB.out Tryz.underlying91 rfl Tryz.pageSize) rfl ?_
    have HMF := HMR.out.mono (G := F2) (fun k hk => hk ▸ HRF2.out)
    refine ⟨P2, F2, (HG2.out.at (HX2.out nq)).res HMR.out HRP2.out HRF2.out, ((HN1.out.trans HN2.out).trans (Nxt.ext HN2.out.env HN2.out.sub (HX2.out nq))).resD HMR.out (by omega) HRF2.out, ?_⟩
    rw [HY.out]
    exact ⟨0, 0, 0, none, 0, 0, f, rfl, (HE.out.mods (HX2.out nq).ext).mods HMF⟩
end
end Go.Proofs.YtepafbokbfcbgaaGreatDoor
namespace Go.Proofs.YtepafbokbfcbgaaGreatDoor
open Go.RowKit Go.Maps
section
variable {F P P' F' P1 F1 : Nat → Prop} {ad : Nat → Addr} {w w' w0 : World} {base c s gen kb mb : Nat} {G : GA} {l : List Nat} {pv kv pv' kv' : Value} {st st' : WkS}
/-- the pager's blocks, and the walker's own. -/
def wkQ (P : Nat → Prop) (kb mb : Nat) (pv kv : Value) : Nat → Prop := fun k => P k ∨ WkB kb mb pv kv k
/-- the walker, beside its pager. -/
structure WkI (F P : Nat → Prop) (ad : Nat → Addr) (w : World) (base c s gen kb mb : Nat) (G : GA) (l : List Nat) (pv kv : Value) (st : WkS) : Prop where
  env : Env F ad w
  sub : ∀ k, P k → F k
  pg : PgR F w P c s G l
  wk : WkR F P w base c s gen kb mb pv kv st
  bl : base ≤ w.heap.size
theorem WkR.lt (h : WkR F P w base c s gen kb mb pv kv st) : ∀ k, WkB kb mb pv kv k → k < w.heap.size := by
  rintro k (rfl | rfl | e | e)
  · exact h.blk.lt
  · exact h.seen.lt
  · exact (h.rp.lt k e).2
  · exact (h.rk.lt k e).2
theorem WkI.bd (h : WkI F P ad w base c s gen kb mb G l pv kv st) : Bd (wkQ P kb mb pv kv) w := by
  rintro k (hk | hk)
  · exact h.pg.bd k hk
  · exact h.wk.lt k hk
theorem WkI.subQ (h : WkI F P ad w base c s gen kb mb G l pv kv st) : ∀ k, wkQ P kb mb pv kv k → F k := by
  rintro k (hk | hk)
  · exact h.sub k hk
  · exact (h.wk.nP k hk).1
/-- nothing old has turned. -/
theorem WkI.ext (h : WkI F P ad w base c s gen kb mb G l pv kv st) (m : Ext w w') : WkI F P ad w' base c s gen kb mb G l pv kv st ∧ Nxt (wkQ P kb mb pv kv) (wkQ P kb mb pv kv) F F ad w w' :=
  ⟨⟨h.env.mods m.ext, h.sub, h.pg.at m, ⟨h.wk.blk.ext m, h.wk.seen.mods m (fun f => f), h.wk.rp.ext m, h.wk.rk.ext m, h.wk.nP, h.wk.few⟩, Nat.le_trans h.bl m.size⟩, Nxt.ext h.env h.subQ m⟩
/-- the pager has turned. -/
theorem WkI.pag {G' : GA} {l' : List Nat} (h : WkI F P ad w base c s gen kb mb G l pv kv st) (n : Nxt P P' F F' ad w w') (g : PgR F' w' P' c s G' l') :
    WkI F' P' ad w' base c s gen kb mb G' l' pv kv st ∧ Nxt (wkQ P kb mb pv kv) (wkQ P' kb mb pv kv) F F' ad w w' := by
  have hw := h.wk
  have np := fun k (hk : WkB kb mb pv kv k) => (hw.nP k hk).2
  have m := n.stp.mods
  have nq : ∀ k, WkB kb mb pv kv k → F' k ∧ ¬ P' k := fun k hk => ⟨n.grow k (hw.nP k hk).1, n.not (hw.lt k hk) (np k hk)⟩
  refine ⟨⟨n.env, n.sub, g, ⟨hw.blk.mods m (np kb (.inl rfl)), hw.seen.mods m (np mb (.inr (.inl rfl))), hw.rp.mods m (fun k hk => np k (.inr (.inr (.inl hk)))), hw.rk.mods m (fun k hk => np k (.inr (.inr (.inr hk)))), nq, hw.few⟩, Nat.le_trans h.bl m.size⟩,
    ⟨⟨m.mono (fun k hk => .inl hk), ?_, ?_⟩, ?_, n.grow, n.oldF, n.env⟩⟩
  · rintro k hk (hp | hp)
    · exact .inl (n.stp.old k hk hp)
    · exact .inr hp
  · rintro k (hp | hp)
    · exact n.stp.bd k hp
    · exact Nat.lt_of_lt_of_le (hw.lt k hp) m.size
  · rintro k (hp | hp)
    · exact n.sub k hp
    · exact (nq k hp).1
/-- a page has come. -/
theorem WkI.saw (h : WkI F P ad w base c s gen kb mb G l pv kv st) (hw : WkR (plusV F pv') P w' base c s gen kb mb pv' kv st') (m : Mods (WkB kb mb pv kv) w w') (hat : pv'.ownBlock = pv.ownBlock ∨ ∃ K, w.heap.size ≤ K ∧ pv'.ownBlock = some K) :
    WkI (plusV F pv') P ad w' base c s gen kb mb G l pv' kv st' ∧ Nxt (wkQ P kb mb pv kv) (wkQ P kb mb pv' kv) F (plusV F pv') ad w w' := by
  have hnew : ∀ k, k < w.heap.size → ¬ F k → ¬ plusV F pv' k := by
    rintro k hk hn (hf | hf)
    · exact hn hf
    · rcases hat with e | ⟨K, hK, e⟩
      · exact hn (h.wk.nP k (.inr (.inr (.inl (e ▸ hf))))).1
      · rw [e] at hf; injection hf with hf; omega
  have hE : Env (plusV F pv') ad w' := h.env.step (m.mono (fun k hk => (h.wk.nP k hk).1)) hnew (fun k hf => by
    rcases hf with hf | hf
    · exact Nat.lt_of_lt_of_le (h.env.lt k hf) m.size
    · exact (hw.rp.lt k hf).2)
  have hI : WkI (plusV F pv') P ad w' base c s gen kb mb G l pv' kv st' :=
    ⟨hE, fun k hk => .inl (h.sub k hk), h.pg.plus m (fun k hk hq => (h.wk.nP k hq).2 hk) (fun k hk => (h.wk.nP k hk).1) hnew, hw, Nat.le_trans h.bl m.size⟩
  refine ⟨hI, ⟨⟨m.mono (fun k hk => .inr hk), ?_, hI.bd⟩, hI.subQ, fun k hk => .inl hk, fun k hk hf => Classical.byContradiction fun hn => hnew k hk hn hf, hE⟩⟩
  rintro k hk (hp | hp | hp | hp | hp)
  · exact .inl hp
  · exact .inr (.inl hp)
  · exact .inr (.inr (.inl hp))
  · rcases hat with e | ⟨K, hK, e⟩
    · exact .inr (.inr (.inr (.inl (e ▸ hp))))
    · rw [e] at hp; injection hp with hp; omega
  · exact .inr (.inr (.inr (.inr hp)))
end
end Go.Proofs.YtepafbokbfcbgaaGreatDoor
namespace Go.Proofs.YtepafbokbfcbgaaGreatDoor
open Go.RowKit
attribute [local go_sem ↓] Go.wp_at_zero Go.wp_at_succ
section
variable {P P' P1 P2 F F' F1 F2 Q : Nat → Prop} {ad : Nat → Addr} {w w' wr w2 : World} {c s : Nat} {G : GA} {l : List Nat} {v v' : Value} {gen : Nat}
set_option maxRecDepth 100000 in
set_option maxHeartbeats 4000000 in
theorem find_any (hL : Env F ad w) (hP : ∀ k, P k → F k) (h : PgR F w P c s G l) (gen : Nat) (root : Int) (key : ByteArray) (hk : findOk G key 16 root) :
    Calls Tryz.prog 93 #[pgV c s gen, .int .i64 root, .string key] w (PgDone F P ad w c s G l (fun F' w' e => FindRes F' ad w' (findA G key 16 [] root) e)) := by
  have m0 : Ext w ((w.alloc (.cells #[.pointer (some ⟨c, 0, none⟩), .pointer (some ⟨s, 0, none⟩), .int .u64 (gen : Int)] 34)).alloc (.cells #[.bool false, .slice none 0 0, .slice none 0 0, .slice none 0 0] 134)) := ((Mods.refl _ w).alloc _).alloc _
  have HF0 : Hid (FiS F P ad w c s gen G l (fun k => F k ∨ k = w.heap.size + 1) P ((w.alloc (.cells #[.pointer (some ⟨c, 0, none⟩), .pointer (some ⟨s, 0, none⟩), .int .u64 (gen : Int)] 34)).alloc (.cells #[.bool false, .slice none 0 0, .slice none 0 0, .slice none 0 0] 134)) (.slice none 0 0) []) := Lib.hid
    ⟨h.plusNew hP m0 (fun k hk => by omega), Nxt.new hL hP m0 (fun k hk => by omega) (fun k hk => by simp; omega), LocR.nil _ _ _ _ _ _ _, (Blk.new w _ _).alloc _, fun hp => by have := h.bd _ hp; omega, heap_at (by simp), fun hp => by have := h.bd _ hp; omega, .inr rfl⟩
  have HK := Lib.hid hk
  have HFL := Lib.hid hL.lt
  clear hL hP h hk m0
  have HLD := fun (F1 P1 : Nat → Prop) (wr : World) (h1 : Env F1 ad wr) (h2 : ∀ k, P1 k → F1 k) (h3 : PgR F1 wr P1 c s G l) (id : Int) (h4 : G.knows id) => load_any h1 h2 h3 gen id h4
  unfold pgV at HLD ⊢
  have HLD := Lib.hid HLD
  go_enter Tryz.func93, Tryz.ntmps93
  go_wp2_with fail
  go_loopg [9, 10] 16 (fun m v9 v10 wr => ∃ (F1 P1 : Nat → Prop) (st : List (Int × Nat)) (id : Int), st.length + m = 16 ∧ v10 = .int .i64 id ∧ Hid (FiS F P ad w c s gen G l F1 P1 wr v9 st ∧ findA G key m st id = findA G key 16 [] root ∧ findOk G key m id))
  case atStart => exact ⟨_, P, [], root, rfl, rfl, Lib.hid ⟨HF0.out, rfl, HK.out⟩⟩
  case round =>
    obtain ⟨F1, P1, st, id, hm, rfl, HW⟩ := hrel
    obtain ⟨va, vc, rfl, hv1, hv2⟩ := HW.out.1.row.1.form
    unfold maxLen at hv2
    have hbb := HW.out.1.box.lt
    have hrr := HW.out.1.res.lt
    by_cases hlt : 0 < gk
    · obtain ⟨m, rfl⟩ : ∃ m, gk = m + 1 := ⟨gk - 1, by omega⟩
      have hb0 := HW.out.1.box.cell (o := 0) (v := .pointer (some ⟨c, 0, none⟩)) rfl
      have hb1 := HW.out.1.box.cell (o := 1) (v := .pointer (some ⟨s, 0, none⟩)) rfl
      have hb2 := HW.out.1.box.cell (o := 2) (v := .int .u64 (gen : Int)) rfl
      have hlen : (st.length : Int) < 16 := by omega
      go_wp2_with fail
      refine (HLD.out F1 P1 _ HW.out.1.nx.env HW.out.1.nx.sub HW.out.1.pg id HW.out.2.2.1).mono ?_
      rintro e w2 ⟨P2, F2, hG2, hN2, hres⟩
      have HW2 := Lib.hid (HW.out.1.nxt hN2 hG2)
      have HM2 := Lib.hid (hN2.subP HW.out.1.nx.sub)
      clear hG2 hN2 hb0 hb1 hb2
      generalize hld : G.load id = r at hres
      rcases r with n | ⟨el, ek⟩
      · obtain ⟨ve, vk, vi, rfl, hse, hsk, hsi⟩ := hres
        have hrn := GA.load_right hld
        obtain ⟨ea, ec, rfl, _, _, _, _⟩ := _root_.id hse
        obtain ⟨ka, kc, rfl, _, _, _, _⟩ := _root_.id hsk
        obtain ⟨ia, ic, rfl, _, hic, _, hii⟩ := _root_.id hsi
        unfold maxLen at hic
        obtain ⟨at_, isb, hfn⟩ : ∃ a b, findN n key = (a, b) := ⟨_, _, rfl⟩
        have HLD2 := Lib.hid hld
        have HFN := Lib.hid hfn
        have HRN := Lib.hid hrn
        have HII := Lib.hid hii
        have m2 : Ext w2 (w2.alloc (.cells #[.bool n.leaf, .slice ea n.entries.length ec, .slice ka n.keys.length kc, .slice ia n.kids.length ic] 134)) := (Mods.refl _ w2).alloc _
        have HFD := Lib.hid (findNode_any n key _ _ (.slice ia n.kids.length ic) (hse.ext m2) (hsk.ext m2))
        have HX2 := Lib.hid (Blk.new w2 #[.bool n.leaf, .slice ea n.entries.length ec, .slice ka n.keys.length kc, .slice ia n.kids.length ic] 134)
        have HSE := Lib.hid hse
        have HSK := Lib.hid hsk
        have HSI := Lib.hid hsi
        have HM2' := Lib.hid m2
        clear hld hfn hrn hii hse hsk hsi m2
        go_wp2_with fail
        refine (HFD.out).mono ?_
        rintro e w3 ⟨rfl, hm3⟩
        rw [HFN.out]
        have HW3 := Lib.hid (HW2.out.ext (HM2'.out.trans hm3))
        have HX3 := Lib.hid (HX2.out.ext hm3)
        have HM3 := Lib.hid (HM2'.out.trans hm3)
        have hb3 := HW3.out.box.lt
        clear hm3
        cases hlf : n.leaf
        · have HLF := Lib.hid hlf
          have hlt2 : at_ < n.kids.length := by have := findN_lt HRN.out hlf key; rw [HFN.out] at this; exact this
          have HLT2 := Lib.hid hlt2
          rw [hlf] at HX3
          clear hlf
          obtain ⟨kb, koff, rfl, _, _, _⟩ := Sl.at HII.out (Mods.refl F2 w2) (fun k _ h => h) at_ hlt2
          obtain ⟨kid, hkid⟩ : ∃ kid, kid = n.kids[at_] := ⟨_, rfl⟩
          have HKID := Lib.hid hkid
          clear hkid
          go_wp2_with (at_builtin; refine wpl_app2 Tryz.elSt encSt_ok rfl _ _ rfl w.heap.size _ _ st [(id, at_)] rfl rfl (HW3.out.row.1.ext ((Mods.refl _ _).alloc _)) (Sl.one (F := fun _ => False) (heap_at (by simp)) (fun f => f)) (by simp only [List.length_cons, List.length_nil]; omega) (by simp; omega) (fun f => f) ?_; simp only [List.length_cons, List.length_nil, Nat.zero_add]; intro a4 c4 w4 hO4 hm4 hat4; have hX4 := (HX3.out.alloc (.cells #[.int .i64 id, .int .i64 (at_ : Int)] 197)).mods hm4 (fun e => Own.notB HW3.out.row.1 HX3.out (by decide) _ e rfl); have x0 := hX4.cell (o := 0) (v := .bool false) rfl; have x3 := hX4.cell (o := 3) (v := .slice (some ⟨kb, koff, none⟩) n.kids.length ic) rfl; have hM4 : Mods F2 w2 w4 := ((HM3.out.alloc _).ext).trans (hm4.mono (fun k hk => (HW3.out.row.2 k hk).1)); have d0 : w4.cell? ⟨kb, koff + at_, none⟩ = some (.int .i64 kid) := kid_cell HII.out hM4 HLT2.out HKID.out)
          have HW4 := Lib.hid ((HW3.out.ext ((Mods.refl _ w3).alloc (.cells #[.int .i64 id, .int .i64 (at_ : Int)] 197))).app hO4 hm4 hat4)
          have HX4 := Lib.hid hX4
          have HM4 : Hid (Mods F2 w2 w4) := Lib.hid (((HM3.out.alloc _).ext).trans (hm4.mono (fun k hk => (HW3.out.row.2 k hk).1)))
          have HO4 := Lib.hid hO4
          clear hX4 hO4 hm4 hat4 hM4 d0 x0 x3
          have HFA : Hid (findA G key m (st ++ [(id, at_)]) kid = findA G key 16 [] root) := Lib.hid (by
            have h1 := HW.out.2.1
            rw [findA, HLD2.out] at h1
            simp only [HLF.out, Bool.false_eq_true, if_false, HFN.out] at h1
            rw [kids_at (List.getElem?_eq_getElem HLT2.out)] at h1
            rw [HKID.out]
            exact h1)
          have HOK : Hid (findOk G key m kid) := Lib.hid (by
            have h1 := HW.out.2.2.2 n HLD2.out HLF.out
            rw [HFN.out] at h1
            simp only [kids_at (List.getElem?_eq_getElem HLT2.out)] at h1
            rw [HKID.out]; exact h1)
          go_wp2_with fail
          go_roundg m
          case measure => omega
          case rel => exact ⟨_, P2, st ++ [(id, at_)], kid, by rw [List.length_append, List.length_cons, List.length_nil]; omega, rfl, Lib.hid ⟨HW4.out, HFA.out, HOK.out⟩⟩
        · have HLF := Lib.hid hlf
          rw [hlf] at HX3
          clear hlf
          go_wp2_with (at_builtin; refine wpl_app2 Tryz.elSt encSt_ok rfl _ _ rfl w.heap.size _ _ st [(id, at_)] rfl rfl (HW3.out.row.1.ext ((Mods.refl _ _).alloc _)) (Sl.one (F := fun _ => False) (heap_at (by simp)) (fun f => f)) (by simp only [List.length_cons, List.length_nil]; omega) (by simp; omega) (fun f => f) ?_; simp only [List.length_cons, List.length_nil, Nat.zero_add]; intro a4 c4 w4 hO4 hm4 hat4; have hX4 := (HX3.out.alloc (.cells #[.int .i64 id, .int .i64 (at_ : Int)] 197)).mods hm4 (fun e => Own.notB HW3.out.row.1 HX3.out (by decide) _ e rfl); have x0 := hX4.cell (o := 0) (v := .bool true) rfl; have x1 := hX4.cell (o := 1) (v := .slice ea n.entries.length ec) rfl; have x2 := hX4.cell (o := 2) (v := .slice ka n.keys.length kc) rfl; have x3 := hX4.cell (o := 3) (v := .slice ia n.kids.length ic) rfl; have hR := (HW3.out.res.alloc (.cells #[.int .i64 id, .int .i64 (at_ : Int)] 197)).mods hm4 (fun e => Own.notB HW3.out.row.1 HW3.out.res (by decide) _ e rfl); have r0 := hR.cell (o := 0) (v := .bool false) rfl; have r1 := hR.cell (o := 1) (v := .slice none 0 0) rfl; have r2 := hR.cell (o := 2) (v := .slice none 0 0) rfl; have r3 := hR.cell (o := 3) (v := .slice none 0 0) rfl; have rf := hR.frozen)
          have HW4 := Lib.hid ((HW3.out.ext ((Mods.refl _ w3).alloc (.cells #[.int .i64 id, .int .i64 (at_ : Int)] 197))).app hO4 hm4 hat4)
          have HX4 := Lib.hid hX4
          have HM4 : Hid (Mods F2 w2 w4) := Lib.hid (((HM3.out.alloc _).ext).trans (hm4.mono (fun k hk => (HW3.out.row.2 k hk).1)))
          have HO4 := Lib.hid hO4
          have hne : w2.heap.size ≠ w.heap.size + 1 := by have := HW2.out.res.lt; omega
          have hne2 : w.heap.size + 1 ≠ w2.heap.size := fun e => hne e.symm
          clear hX4 hO4 hm4 hat4 hR
          go_wp2_with fail
          go_region_held3 (fun w' => w'.cell? ⟨w2.heap.size, 0, none⟩ = some (.bool true) ∧ w'.cell? ⟨w2.heap.size, 1, none⟩ = some (.slice ea n.entries.length ec) ∧ w'.cell? ⟨w2.heap.size, 2, none⟩ = some (.slice ka n.keys.length kc) ∧ w'.cell? ⟨w2.heap.size, 3, none⟩ = some (.slice ia n.kids.length ic))
            (first | (with_reducible exact ⟨x0, x1, x2, x3⟩) | go_keep)
            (fail)
          have HFA : Hid (findA G key 16 [] root = .inl (st ++ [(id, at_)], n)) := Lib.hid (by
            rw [← HW.out.2.1, findA, HLD2.out]
            simp only [HLF.out, if_true, HFN.out])
          have HRB := Lib.hid ((HW4.out.res.set4 (.bool true) (.slice ea n.entries.length ec) (.slice ka n.keys.length kc) (.slice ia n.kids.length ic)).drew)
          have HMR := Lib.hid ((Mods.set4 (F := fun k => k = w.heap.size + 1) (Mods.refl _ w4) (R := w.heap.size + 1) (.inr rfl) (.bool true) (.slice ea n.entries.length ec) (.slice ka n.keys.length kc) (.slice ia n.kids.length ic)).drew)
          clear x0 x1 x2 x3 r0 r1 r2 r3 rf hne hne2
          go_wp2_with fail
          refine bodyPost_ret (results_tmp_row_tmp rfl _ _ (w.heap.size + 1) 134 #[.bool true, .slice ea n.entries.length ec, .slice ka n.keys.length kc, .slice ia n.kids.length ic] _ rfl HRB.out Tryz.underlying134 rfl Tryz.nodeSize) rfl ?_
          have HM5 := HM4.out.trans (HMR.out.mono (G := F2) (fun k hk => hk ▸ HW2.out.resF))
          have hn5 := HW4.out.nx.resD HMR.out (R := w.heap.size + 1) (by omega) HW4.out.resF
          have hq : ∀ k, (F k ∨ P2 k) → F2 k := fun k hk => hk.elim (HW2.out.nx.grow k) (HW2.out.nx.sub k)
          refine ⟨P2, fun k => F k ∨ P2 k, (HW4.out.pg.res HMR.out HW4.out.resP HW4.out.resF).anti (fun k hk => .inl (hq k hk)), hn5.least, ?_⟩
          rw [HFA.out]
          refine ⟨_, _, _, _, by rw [HLF.out]; rfl, ?_, (HSE.out.mods HM5).anti' hq, (HSK.out.mods HM5).anti' hq, (HSI.out.mods HM5).anti' hq⟩
          have ho := HW4.out.row.1.mods HMR.out (fun g hg e => Own.notB HW4.out.row.1 HW4.out.res (by decide) g hg e)
          have hs : Sl (fun k => F k ∨ P2 k) _ 2 encSt _ (st ++ [(id, at_)]) := Own.sl (F := fun k => F k ∨ P2 k) ⟨ho.1, fun g hg hf => hf.elim (fun hf => by have h1 := (HW4.out.row.1.lt g hg).1; have h2 := HFL.out g hf; omega) (fun hp => (HW4.out.row.2 g hg).2 hp)⟩ encSt_ok.len (by simp; omega)
          simpa using hs
      · obtain ⟨f, rfl, hE⟩ := hres
        have HE := Lib.hid hE
        have HFA : Hid (findA G key 16 [] root = .inr (el, ek)) := Lib.hid (by rw [← HW.out.2.1, findA, hld])
        clear hld hE
        have hR := HW2.out.res.alloc (.cells #[.bool false, .slice none 0 0, .slice none 0 0, .slice none 0 0] 134)
        have r0 := hR.cell (o := 0) (v := .bool false) rfl
        have r1 := hR.cell (o := 1) (v := .slice none 0 0) rfl
        have r2 := hR.cell (o := 2) (v := .slice none 0 0) rfl
        have r3 := hR.cell (o := 3) (v := .slice none 0 0) rfl
        have rf := hR.frozen
        have HRB := Lib.hid (hR.set4 (.bool false) (.slice none 0 0) (.slice none 0 0) (.slice none 0 0))
        have HMR := Lib.hid (Mods.set4 (F := fun k => k = w.heap.size + 1) (Mods.refl _ (w2.alloc (.cells #[.bool false, .slice none 0 0, .slice none 0 0, .slice none 0 0] 134))) (R := w.heap.size + 1) (.inr rfl) (.bool false) (.slice none 0 0) (.slice none 0 0) (.slice none 0 0))
        clear hR
        go_wp2_with fail
        refine bodyPost_ret (results_tmp_row_tmp rfl _ _ (w.heap.size + 1) 134 #[.bool false, .slice none 0 0, .slice none 0 0, .slice none 0 0] _ rfl HRB.out Tryz.underlying134 rfl Tryz.nodeSize) rfl ?_
        refine ⟨P2, F2, ((HW2.out.pg.at ((Mods.refl _ w2).alloc _))).res HMR.out HW2.out.resP HW2.out.resF, (HW2.out.nx.trans (Nxt.ext HW2.out.nx.env HW2.out.nx.sub ((Mods.refl _ w2).alloc _))).resD HMR.out (by omega) HW2.out.resF, ?_⟩
        rw [HFA.out]
        exact ⟨f, rfl, (HE.out.mods ((Mods.refl _ w2).alloc _)).mods (HMR.out.mono (fun k hk => hk ▸ HW2.out.resF))⟩
    · obtain rfl : gk = 0 := by omega
      have hlen : st.length = 16 := by omega
      have g5 := HW.out.1.nx.env.c5
      have HFA : Hid (findA G key 16 [] root = .inr ([pgOf id], 5)) := Lib.hid (by rw [← HW.out.2.1]; rfl)
      rw [hlen] at HW hv1 ⊢
      have HL16 := Lib.hid hlen
      clear hlen
      go_wp2_with fail
      refine (at_any HW.out.1.nx.env _ id _ [] 5 (.sent 5 (by decide) (by decide))).mono ?_
      rintro e w2 ⟨f, rfl, hE, hm2⟩
      have HE := Lib.hid hE
      have HW2 := Lib.hid (HW.out.1.ext hm2)
      have hR := HW2.out.res
      have r0 := hR.cell (o := 0) (v := .bool false) rfl
      have r1 := hR.cell (o := 1) (v := .slice none 0 0) rfl
      have r2 := hR.cell (o := 2) (v := .slice none 0 0) rfl
      have r3 := hR.cell (o := 3) (v := .slice none 0 0) rfl
      have rf := hR.frozen
      have HRB := Lib.hid (hR.set4 (.bool false) (.slice none 0 0) (.slice none 0 0) (.slice none 0 0))
      have HMR := Lib.hid (Mods.set4 (F := fun k => k = w.heap.size + 1) (Mods.refl _ w2) (R := w.heap.size + 1) (.inr rfl) (.bool false) (.slice none 0 0) (.slice none 0 0) (.slice none 0 0))
      clear hR hE hm2
      go_wp2_with fail
      refine bodyPost_ret (results_tmp_row_tmp rfl _ _ (w.heap.size + 1) 134 #[.bool false, .slice none 0 0, .slice none 0 0, .slice none 0 0] _ rfl HRB.out Tryz.underlying134 rfl Tryz.nodeSize) rfl ?_
      refine ⟨P1, F1, HW2.out.pg.res HMR.out HW2.out.resP HW2.out.resF, HW2.out.nx.resD HMR.out (by omega) HW2.out.resF, ?_⟩
      rw [HFA.out]
      exact ⟨f, rfl, HE.out.mods (HMR.out.mono (fun k hk => hk ▸ HW2.out.resF))⟩
end
end Go.Proofs.YtepafbokbfcbgaaGreatDoor
