/- (*block.Disk).Write. -/
import Derived.Test.YtidjkcfjocppmaaDoorKDisk1
import Derived.Test.YtidjkcfjocppmaaDoorKBase2
import Derived.Test.YtidjkcfjocppmaaDoorKCacheDefs
import Derived.Deep.AppendLies
import Derived.Deep.RegionHeld3
import Derived.Deep.DrawnRows
namespace Go.Proofs.YtidjkcfjocppmaaDoor
open Go.RowKit
attribute [local go_sem ↓] Go.wp_at_zero Go.wp_at_succ

/-- append, as a step of a region that draws. -/
theorem step_app {P : Program} {α : Type} {F G : Nat → Prop} {w : World} {t e : TypeId} {z : Value} {sz bytes : Nat} {enc : α → List Value} (T : ElT P t e z sz bytes) (E : EncOk enc sz)
    {ops : Array Oper} {o : Oper} {a : Act} {K : Act → World → Prop} {Q : Exit → Act → World → Prop} {X : Prop} (hgd : o.guard = none) (sx x : Operand)
    (ho : o.op = .call { callee := .builtin .append, args := #[sx, x], argTypes := #[t, t] })
    (base : Nat) (v s : Value) (l m : List α) (hv : a.eval sx = v) (hx : a.eval x = s) (hown : Own F w base e sz enc v l) (hs : Sl G w sz enc s m) (hb : (l.length + m.length) * bytes ≤ 140737488355328) (hbase : base ≤ w.heap.size) (hn : ¬ F w.heap.size)
    (h : ∀ a' c' w', Own F w' base e sz enc (.slice a' (l.length + m.length) c') (l ++ m) → w.grownBy w' v.ownBlock →
      ((Value.slice a' (l.length + m.length) c').ownBlock = v.ownBlock ∨ (Value.slice a' (l.length + m.length) c').ownBlock = some w.heap.size) → K (a.put o.dst (.slice a' (l.length + m.length) c')) w') :
    if Region.wanted o (yielded ops a.tmps) = true then Oper.wp P o a w K Q else X := by
  have hw : Region.wanted o (yielded ops a.tmps) = true := by simp [Region.wanted, hgd]
  rw [if_pos hw]
  obtain ⟨i, hi, hz, hs1, hb1⟩ := info3 T.info
  obtain ⟨a', c', w', hr, h2, h3, h4⟩ := run_append_sl (P := P) base t o.type e i z sz bytes T.under hi hz hs1 hb1 T.zs T.sz0 enc E.len E.one v s l m hown hs hb T.by0 hbase hn
  unfold Oper.wp execOp
  simp only [ho, resolve, invoke, builtin, Sem.run_bind, Sem.run_pure, Result.andThen_ok, List.map_toArray, List.map_cons, List.map_nil, hv, hx, hr]
  exact h a' c' w' h2 h3 h4


theorem encT_one (x : Nat × Nat × Nat) : ∀ u ∈ encT x, u.oneCell' = true := by
  intro u hu
  simp [encT, rowV] at hu
  rcases hu with rfl | rfl <;> rfl
section
variable {P F : Nat → Prop} {ad : Nat → Addr} {w w' : World} {d bl : Nat} {gs ws : List Nat} {wv kv : Value} {D : DiskA}

/-- a disk, by its footprint. -/
def DkS (w : World) (P : Nat → Prop) (d : Nat) (D : DiskA) : Prop := ∃ bl gs ws wv kv, DkR w d bl gs ws wv kv D ∧ ∀ k, P k ↔ dkF d bl gs ws wv kv k
theorem DkR.frz (h : DkR w d bl gs ws wv kv D) (o : Nat) : w.frozen? ⟨d, o, none⟩ = false := by
  obtain ⟨cap, _, _, hb, _⟩ := h.own
  exact hb.frozen o
theorem keepC {F : Nat → Prop} {w w' : World} (m : Mods F w w') {d o : Nat} {v : Value} (h : w.cell? ⟨d, o, none⟩ = some v ∧ w.frozen? ⟨d, o, none⟩ = false) (hF : ¬ F d) : w'.cell? ⟨d, o, none⟩ = some v ∧ w'.frozen? ⟨d, o, none⟩ = false :=
  ⟨(m.cell (cell_lt h.1) hF).trans h.1, (m.frozen (cell_lt h.1) hF).trans h.2⟩
theorem keepA {w : World} {d o : Nat} {v : Value} (h : w.cell? ⟨d, o, none⟩ = some v ∧ w.frozen? ⟨d, o, none⟩ = false) (x : Obj) : (w.alloc x).cell? ⟨d, o, none⟩ = some v ∧ (w.alloc x).frozen? ⟨d, o, none⟩ = false :=
  keepC ((Mods.refl (fun _ => False) w).alloc x) h (fun f => f)
theorem DkR.bd (h : DkR w d bl gs ws wv kv D) : ∀ k, k ∈ d :: bl :: (gs ++ ws) → k < w.heap.size := by
  obtain ⟨cap, _, _, h1, rest, h2, _⟩ := h.own
  intro k hk
  simp only [List.mem_cons, List.mem_append] at hk
  rcases hk with rfl | rfl | hk | hk
  · exact h1.lt
  · exact h2.lt
  · obtain ⟨j, hj, e⟩ := List.getElem_of_mem hk
    have hl : j < D.lasting.length := by rw [h.lenL, ← h.lenB]; exact hj
    exact (h.row j k _ (by rw [← e]; exact List.getElem?_eq_getElem hj) (List.getElem?_eq_getElem hl)).2.lt
  · obtain ⟨j, hj, e⟩ := List.getElem_of_mem hk
    have hl : j < D.waiting.length := by rw [← h.lenW]; exact hj
    exact (h.wrow j k _ (by rw [← e]; exact List.getElem?_eq_getElem hj) (List.getElem?_eq_getElem hl)).2.2.lt
theorem DkR.bdF (h : DkR w d bl gs ws wv kv D) : Bd (dkF d bl gs ws wv kv) w := fun k hk => by
  rcases hk with hk | hk | hk
  · exact h.bd k hk
  · exact (h.wait.lt k hk).2
  · exact (h.keep.lt k hk).2
/-- a write that waits comes to it. -/
theorem DkR.add {w1 w2 w4 : World} {o : Obj} {g2 i : Nat} {b : List UInt8} {v' : Value} (h : DkR w1 d bl gs ws wv kv D) (hD : ∀ k, P k ↔ dkF d bl gs ws wv kv k) (m2 : Ext w1 w2) (hg2 : w1.heap.size ≤ g2) (hg3 : g2 < w2.heap.size) (hB2 : Blk w2 g2 (bytesC b) 5)
    (hgrow : (w2.alloc o).grownBy w4 wv.ownBlock) (hown : Own (fun k => k ∈ d :: bl :: (gs ++ ws)) w4 0 105 2 encT v' (((D.waiting.zip ws).map fun p => (p.1.1, D.size, p.2)) ++ [(i, D.size, g2)]))
    (hat : v'.ownBlock = wv.ownBlock ∨ v'.ownBlock = some (w2.alloc o).heap.size) (hi : i < D.blocks) (hb : b.length = D.size) (hfew : D.waiting.length < 1000000) :
    DkR (w4.setCell ⟨d, 3, none⟩ v') d bl gs (ws ++ [g2]) v' kv { D with waiting := D.waiting ++ [(i, b)] } ∧ Stp P (dkF d bl gs (ws ++ [g2]) v' kv) w1 (w4.setCell ⟨d, 3, none⟩ v') := by
  have hlt := h.bd
  have hwl := h.wait.lt
  have mg := Mods.of_grown hgrow
  have hsz2 := m2.size
  have hsz4 := mg.size
  have hsa : (w2.alloc o).heap.size = w2.heap.size + 1 := by simp
  rw [hsa] at hsz4 hat
  have hdw : ∀ k, k ∈ d :: bl :: (gs ++ ws) → wv.ownBlock ≠ some k := fun k hk e => h.wait.2 k e hk
  have mA : Mods (fun k => wv.ownBlock = some k) w1 w4 := (m2.ext.trans ((Mods.refl _ w2).alloc o)).trans mg
  have hP1 : ∀ k, k ∈ d :: bl :: (gs ++ ws) → P k := fun k hk => (hD k).2 (.inl hk)
  have hmem : ∀ k, k ∈ d :: bl :: (gs ++ (ws ++ [g2])) → k ∈ d :: bl :: (gs ++ ws) ∨ k = g2 := fun k hk => by
    simp only [List.mem_cons, List.mem_append, List.not_mem_nil, or_false] at hk ⊢
    rcases hk with h | h | h | h | h <;> simp [h]
  have mW : Mods P w1 (w4.setCell ⟨d, 3, none⟩ v') := ((mA.mono (fun k hk => (hD k).2 (.inr (.inl hk))))).setCell (p := ⟨d, 3, none⟩) (.inr (hP1 d List.mem_cons_self)) _
  have old : ∀ k, k < w1.heap.size → dkF d bl gs (ws ++ [g2]) v' kv k → P k := fun k hk hf => by
    rcases hf with hf | hf | hf
    · rcases hmem k hf with hf | rfl
      · exact hP1 k hf
      · omega
    · rcases hat with e | e
      · exact (hD k).2 (.inr (.inl (e ▸ hf)))
      · rw [e] at hf; injection hf with hf; omega
    · exact (hD k).2 (.inr (.inr hf))
  have hv'lt : ∀ k, v'.ownBlock = some k → k < w4.heap.size := fun k hk => (hown.lt k hk).2
  have hne3 : ∀ k, k ∈ bl :: (gs ++ ws) → k ≠ d := fun k hk e => (List.nodup_cons.1 h.nodup).1 (e ▸ hk)
  have keepB : ∀ (k : Nat) (c : Array Value) (t : TypeId), k ∈ bl :: (gs ++ ws) → Blk w1 k c t → Blk (w4.setCell ⟨d, 3, none⟩ v') k c t := fun k c t hk hb => (hb.mods mA (hdw k (List.mem_cons_of_mem _ hk))).set_other (hne3 k hk) _
  obtain ⟨cap, a1, a2, a3, rest, a4, a5⟩ := h.own
  have hg2n : ∀ k, k ∈ d :: bl :: (gs ++ ws) → k ≠ g2 := fun k hk e => by have := hlt k hk; omega
  have nd : (d :: bl :: (gs ++ (ws ++ [g2]))).Nodup := by
    have e : d :: bl :: (gs ++ (ws ++ [g2])) = (d :: bl :: (gs ++ ws)) ++ [g2] := by simp
    rw [e, List.nodup_append]
    exact ⟨h.nodup, by simp, fun x hx y hy e => hg2n x hx (by simp at hy; rw [e, hy])⟩
  have hB4 : Blk (w4.setCell ⟨d, 3, none⟩ v') g2 (bytesC b) 5 := by
    refine ((hB2.alloc o).mods mg (fun e => ?_)).set_other (fun e => hg2n d List.mem_cons_self e.symm) _
    have := (hwl g2 e).2; omega
  refine ⟨⟨⟨cap, a1, a2, ?_, rest, keepB bl _ _ List.mem_cons_self a4, a5⟩, h.lenB, h.lenL, by simp [h.lenW], ?k1, ?k2, h.few2, ?_, fun i g b h1 h2 => ⟨(h.row i g b h1 h2).1, keepB g _ _ (List.mem_cons_of_mem _ (List.mem_append_left _ (List.mem_of_getElem? h1))) (h.row i g b h1 h2).2⟩, ?_, nd, h.b8, h.b256, h.s256, h.s1024, by simp; omega⟩,
    ⟨mW, old, fun k hf => ?_⟩⟩
  case k1 =>
    have h1 := (h.keep.mods mA (fun g hg e => h.kw g hg e)).mods (Mods.at (fun k => k = d) w4 d 3 v' rfl) (fun g hg e => h.keep.2 g hg (e ▸ List.mem_cons_self))
    exact ⟨h1.1, fun g hg hm => by
      rcases hmem g hm with hm | rfl
      · exact h1.2 g hg hm
      · have := (h.keep.lt g hg).2; omega⟩
  case k2 =>
    intro g hg e'
    rcases hat with e | e
    · exact h.kw g hg (e ▸ e')
    · rw [e] at e'; injection e' with e'; have := (h.keep.lt g hg).2; omega
  · have := (a3.mods mA (hdw d List.mem_cons_self)).set 3 v'
    simpa using this
  · have hno : ∀ g, v'.ownBlock = some g → g ≠ d := fun g hg e => hown.2 g hg (e ▸ List.mem_cons_self)
    have e1 : ((D.waiting ++ [(i, b)]).zip (ws ++ [g2])).map (fun p => (p.1.1, D.size, p.2)) = ((D.waiting.zip ws).map fun p => (p.1.1, D.size, p.2)) ++ [(i, D.size, g2)] := by
      rw [List.zip_append h.lenW.symm]; simp
    show Own _ _ 0 _ 2 encT v' (((D.waiting ++ [(i, b)]).zip (ws ++ [g2])).map (fun p => (p.1.1, D.size, p.2)))
    rw [e1]
    have h1 := hown.mods (Mods.at (fun k => k = d) w4 d 3 v' rfl) hno
    refine ⟨h1.1, fun g hg hm => ?_⟩
    rcases hmem g hm with hm | rfl
    · exact h1.2 g hg hm
    · rcases hat with e | e
      · have := (hwl g (e ▸ hg)).2; omega
      · rw [e] at hg; injection hg with hg; omega
  · intro j g p h1 h2
    by_cases hj : j < D.waiting.length
    · rw [List.getElem?_append_left (by rw [h.lenW]; exact hj)] at h1
      rw [List.getElem?_append_left hj] at h2
      have hr := h.wrow j g p h1 h2
      exact ⟨hr.1, hr.2.1, keepB g _ _ (List.mem_cons_of_mem _ (List.mem_append_right _ (List.mem_of_getElem? h1))) hr.2.2⟩
    · rw [List.getElem?_append_right (by rw [h.lenW]; omega)] at h1
      rw [List.getElem?_append_right (by omega)] at h2
      have hj2 := (List.getElem?_eq_some_iff.1 h2).1
      have hj0 : j - D.waiting.length = 0 := by simp at hj2; omega
      rw [h.lenW, hj0] at h1
      rw [hj0] at h2
      simp at h1 h2
      subst h1 h2
      exact ⟨hi, hb, hB4⟩
  · rw [show (w4.setCell ⟨d, 3, none⟩ v').heap.size = w4.heap.size by simp [World.setCell]]
    rcases hf with hf | hf | hf
    · rcases hmem k hf with hf | rfl
      · have := hlt k hf; omega
      · omega
    · exact hv'lt k hf
    · have := (h.keep.lt k hf).2; omega
theorem Mods.ofDrew {G : Nat → Prop} (m : Mods G w.drew w') : Mods G w w' := ⟨m.os, m.tape, m.output, m.size, m.block⟩
theorem burns_wrote {D : DiskA} (i : Nat) (b : List UInt8) (hl : D.lit = false) : ({ D with waiting := D.waiting ++ [(i, b)] } : DiskA).burns.2 = D.wrote i b := by
  unfold DiskA.burns DiskA.wrote
  simp [hl]
/-- blocks that are not the disk's have turned. -/
theorem DkR.far (h : DkR w d bl gs ws wv kv D) {Q : Nat → Prop} (m : Mods Q w w') (hQ : ∀ k, dkF d bl gs ws wv kv k → ¬ Q k) : DkR w' d bl gs ws wv kv D := by
  obtain ⟨cap, a1, a2, a3, rest, a4, a5⟩ := h.own
  exact ⟨⟨cap, a1, a2, a3.mods m (hQ d (.inl List.mem_cons_self)), rest, a4.mods m (hQ bl (.inl (List.mem_cons_of_mem _ List.mem_cons_self))), a5⟩, h.lenB, h.lenL, h.lenW,
    h.keep.mods m (fun g hg => hQ g (.inr (.inr hg))), h.kw, h.few2, h.wait.mods m (fun g hg => hQ g (.inr (.inl hg))),
    fun i g b h1 h2 => ⟨(h.row i g b h1 h2).1, (h.row i g b h1 h2).2.mods m (hQ g (.inl (List.mem_cons_of_mem _ (List.mem_cons_of_mem _ (List.mem_append_left _ (List.mem_of_getElem? h1))))))⟩,
    fun i g p h1 h2 => ⟨(h.wrow i g p h1 h2).1, (h.wrow i g p h1 h2).2.1, (h.wrow i g p h1 h2).2.2.mods m (hQ g (.inl (List.mem_cons_of_mem _ (List.mem_cons_of_mem _ (List.mem_append_right _ (List.mem_of_getElem? h1))))))⟩,
    h.nodup, h.b8, h.b256, h.s256, h.s1024, h.few⟩
theorem DkS.far (h : DkS w P d D) {Q : Nat → Prop} (m : Mods Q w w') (hQ : ∀ k, P k → ¬ Q k) : DkS w' P d D := by
  obtain ⟨bl, gs, ws, wv, kv, h1, h2⟩ := h
  exact ⟨bl, gs, ws, wv, kv, h1.far m (fun k hk => hQ k ((h2 k).2 hk)), h2⟩
theorem Tryd.elT : ElT Tryd.prog 98 105 (.agg #[.int .i64 0, .slice none 0 0]) 2 32 := ⟨Tryd.underlying98, by kernel_rfl, rfl, by decide, by decide⟩
end
section
variable {P F : Nat → Prop} {ad : Nat → Addr} {w w' : World} {d bl : Nat} {gs ws : List Nat} {wv kv : Value} {D : DiskA}
set_option maxRecDepth 100000 in
theorem dkWrite_ok (hL : Env F ad w) (hP : ∀ k, P k → F k) (h : DkR w d bl gs ws wv kv D) (hD : ∀ k, P k ↔ dkF d bl gs ws wv kv k) (i : Nat) (hi : i < D.blocks) (ho : D.off = false) (hl : D.lit = false) (bv : Value) (b : List UInt8) (hb : Sl F w 1 encB bv b) (hbl : b.length = D.size) (hfew : D.waiting.length < 1000000) :
    Calls Tryd.prog 68 #[.pointer (some ⟨d, 0, none⟩), .int .i64 (i : Int), bv] w fun e w' => ∃ P' F', e = .returned .nilIface ∧ DkS w' P' d (D.wrote i b) ∧ Nxt P P' F F' ad w w' := by
  have hon : D.on i = none := by
    unfold DiskA.on DiskA.check
    rw [if_neg (by omega), ho]; rfl
  have HL := Lib.hid hL
  have HD := Lib.hid h
  have HB := Lib.hid hb
  have HP := Lib.hid hP
  have HDD := Lib.hid hD
  have hsz : D.size ≤ 1024 := h.s1024
  have hsz2 : 256 ≤ D.size := h.s256
  obtain ⟨a, cap, rfl, i1, i2, i3, i4⟩ := hb
  unfold maxLen at i2
  have HBL := Lib.hid hbl
  rw [hbl] at i1 i3 ⊢
  clear h hL i4 hbl hP hD
  go_enter Tryd.func68, Tryd.ntmps68
  go_wp2_with fail
  refine (dkOn_any HL.out HD.out _ i).mono ?_
  rintro e w1 ⟨ev, rfl, hE, hm⟩
  rw [hon] at hE
  cases hE
  have HD1 := Lib.hid (HD.out.at hm)
  have c1 := HD1.out.sizeC
  have c3 := HD1.out.wvC.1
  have hd := cell_lt c1
  have HM1 := Lib.hid hm
  have HB1 := Lib.hid (HB.out.mods hm.ext)
  clear hm
  go_wp2_with fail
  have hBs : Sl (fun _ => False) w1 1 encB (.slice a D.size cap) b := by
    have := HB1.out.anti' (Q := fun _ => False) (fun _ f => f.elim)
    rwa [HBL.out] at this
  have HBS : Hid (Sl (fun _ => False) w1.drew 1 encB (.slice a D.size cap) b) := Lib.hid hBs
  have HW1 : Hid (Own (fun k => k ∈ d :: bl :: (gs ++ ws)) w1.drew 0 105 2 encT wv ((D.waiting.zip ws).map fun p => (p.1.1, D.size, p.2))) := Lib.hid HD1.out.wait
  have HNW : Hid (∀ k, k ∈ d :: bl :: (gs ++ ws) → k < w1.heap.size) := Lib.hid HD1.out.bd
  have HLEN : Hid (((D.waiting.zip ws).map fun p => (p.1.1, D.size, p.2)).length = D.waiting.length) := Lib.hid (by simp [HD1.out.lenW])
  clear hBs
  have hdw : ¬ wv.ownBlock = some d := fun e => HD1.out.wait.2 d e List.mem_cons_self
  have f3 : w1.frozen? ⟨d, 3, none⟩ = false := HD1.out.frz 3
  go_region_law
    (first
      | (go_simp; go_at_call 87; refine (bcloned_any (F := fun _ => False) (fun _ f => f.elim) _ b HBS.out (by have := HBL.out; omega) (by have := HBL.out; omega)).mono ?_; rintro e w2 ⟨g2, rfl, hg2, hg3, hB2, hm2⟩; rw [HBL.out]; simp only [rowV]; obtain ⟨k2, k3⟩ := keepC (w := w1.drew) hm2 ⟨c3, f3⟩ (fun f => f); have k6 := fun x : Obj => (keepA ⟨k2, k3⟩ x).1)
      | (refine step_app (enc := encT) (F := fun k => k ∈ d :: bl :: (gs ++ ws)) (G := fun _ => False) Tryd.elT ⟨fun _ => rfl, encT_one⟩ (by rfl) _ _ (by rfl) 0 wv (.slice (some ⟨w2.heap.size, 0, none⟩) 1 1) ((D.waiting.zip ws).map fun p => (p.1.1, D.size, p.2)) [(i, D.size, g2)] (by rfl) (by rfl) ((HW1.out.ext hm2).ext ((Mods.refl _ _).alloc _)) (Sl.one (x := (i, D.size, g2)) (t := 105) (fz := (0, 0)) (heap_at rfl) (fun f => f)) (by have := HLEN.out; simp only [this]; simp; omega) (Nat.zero_le _) (fun f => by have := HNW.out _ f; have := hm2.size; simp at *; omega) ?_; intro a' c' w4 hown hgrow hat; obtain ⟨k4, k5⟩ := keepC (Mods.of_grown hgrow) (keepA ⟨k2, k3⟩ _) hdw))
  all_goals
    simp only [List.length_map, List.length_zip, List.length_singleton] at hown hat
    have HA := Lib.hid (DkR.add HD1.out HDD.out (w2 := w2) hm2.ofDrew hg2 hg3 hB2 hgrow hown hat hi HBL.out hfew)
    clear hown hat hgrow k2 k3 k4 k5 k6 hB2
    go_wp2_with fail
    refine (dkBurns_no HA.out.1 hl).mono ?_
    rintro e w5 ⟨rfl, hD5, hm5⟩
    have HD5 := Lib.hid hD5
    have HM5 := Lib.hid hm5
    clear hD5 hm5
    go_wp2_with fail
    go_ret
    have n1 := Nxt.ext (P := P) HL.out HP.out HM1.out
    have n2 := Nxt.of n1.env HP.out HA.out.2
    have n3 := Nxt.same n2.env n2.sub (HM5.out.mono (fun k hk => .inl (by rw [hk]; exact List.mem_cons_self)))
    exact ⟨_, _, rfl, ⟨bl, gs, _, _, kv, burns_wrote i b hl ▸ HD5.out, fun k => Iff.rfl⟩, (n1.trans n2).trans n3⟩
end
end Go.Proofs.YtidjkcfjocppmaaDoor
