/- A pager, by what is known of it: GA, and which blocks are free. -/
import Derived.Test.YtidjkcfjocppmaaDoorKCache7
import Derived.Test.YtidjkcfjocppmaaDoorKDisk8
import Derived.Test.YtidjkcfjocppmaaDoorKDisk9
import Derived.Test.YtidjkcfjocppmaaDoorKDisk10
import Derived.Test.YtidjkcfjocppmaaDoorKSpace
namespace Go.Proofs.YtidjkcfjocppmaaDoor
open Go.RowKit

def PgR (F : Nat → Prop) (w : World) (P : Nat → Prop) (c s : Nat) (G : GA) (l : List Nat) : Prop :=
  ∃ (d sb : Nat) (bvs : List Value) (Pd : Nat → Prop) (b2 : Nat) (C : CaA), CaR F w d c sb bvs Pd C ∧ CaInv C ∧ CaRel C G ∧ G.cost ≤ 1000000 ∧ SpR w s b2 l ∧ (∀ k, P k ↔ (caF c sb Pd k ∨ spF s b2 k)) ∧ ∀ k, caF c sb Pd k → ¬ spF s b2 k
/-- the pager behind a call, and what it answered. -/
def PgDone (F P : Nat → Prop) (ad : Nat → Addr) (w : World) (c s : Nat) (G' : GA) (l' : List Nat) (R : (Nat → Prop) → World → Ending → Prop) (e : Ending) (w' : World) : Prop :=
  ∃ P' F', PgR F' w' P' c s G' l' ∧ Nxt P P' F F' ad w w' ∧ R F' w' e

def GA.check (G : GA) (id : Int) : Option Err := if id < 0 ∨ (G.blocks : Int) ≤ id then some ([pgOf id], 2) else none
def GA.get (G : GA) (id : Int) : PageA ⊕ Err :=
  match G.check id with
  | some e => .inr e
  | none => match G.view id.toNat with
    | some (.inl p) => .inl p
    | some (.inr (l, k)) => .inr (-1 :: l, k)
    | none => .inr ([], 0)
/-- what a page reads as is known, if there is such a page. -/
def GA.knows (G : GA) (id : Int) : Prop := G.check id = none → ∃ r, G.view id.toNat = some r

section
variable {P P' F F' : Nat → Prop} {ad : Nat → Addr} {w w' : World} {c s : Nat} {G G' : GA} {l l' : List Nat} {R : (Nat → Prop) → World → Ending → Prop}
theorem Nxt.iff {Q Q' : Nat → Prop} (n : Nxt P P' F F' ad w w') (h : ∀ k, Q k ↔ P k) (h' : ∀ k, Q' k ↔ P' k) : Nxt Q Q' F F' ad w w' :=
  ⟨⟨n.stp.mods.mono (fun k hk => (h k).2 hk), fun k hk hq => (h k).2 (n.stp.old k hk ((h' k).1 hq)), fun k hq => n.stp.bd k ((h' k).1 hq)⟩, fun k hq => n.sub k ((h' k).1 hq), n.grow, n.oldF, n.env⟩
theorem PgR.at (h : PgR F w P c s G l) (m : Ext w w') : PgR F w' P c s G l := by
  obtain ⟨d, sb, bvs, Pd, b2, C, h1, h2, h3, h4, h5, h6, h7⟩ := h
  exact ⟨d, sb, bvs, Pd, b2, C, h1.at m, h2, h3, h4, h5.mods m (fun f => f) (fun f => f), h6, h7⟩
theorem PgR.bd (h : PgR F w P c s G l) : Bd P w := fun k hk => by
  obtain ⟨d, sb, bvs, Pd, b2, C, h1, h2, h3, h4, h5, h6, h7⟩ := h
  rcases (h6 k).1 hk with hk | rfl | rfl
  · exact h1.bdP k hk
  · exact h5.own.lt
  · exact h5.row.lt
/-- the cache takes a step. -/
theorem PgR.step {d sb sb' b2 : Nat} {bvs' : List Value} {Pd Pd' : Nat → Prop} {C' : CaA} (hL : Env F ad w) (hP : ∀ k, P k → F k) (h5 : SpR w s b2 l) (h6 : ∀ k, P k ↔ (caF c sb Pd k ∨ spF s b2 k)) (h7 : ∀ k, caF c sb Pd k → ¬ spF s b2 k)
    (hC : CaR F' w' d c sb' bvs' Pd' C') (hI : CaInv C') (hG : CaRel C' G') (hco : G'.cost ≤ 1000000) (n : Nxt (caF c sb Pd) (caF c sb' Pd') F F' ad w w') :
    ∃ P', PgR F' w' P' c s G' l ∧ Nxt P P' F F' ad w w' := by
  have hns : ¬ caF c sb Pd s := fun f => h7 s f (.inl rfl)
  have hnb : ¬ caF c sb Pd b2 := fun f => h7 b2 f (.inr rfl)
  have q := n.part (Q := spF s b2) (fun k hk => hP k ((h6 k).2 (.inr hk))) hL
  refine ⟨fun k => caF c sb' Pd' k ∨ spF s b2 k, ⟨d, sb', bvs', Pd', b2, C', hC, hI, hG, hco, h5.mods n.stp.mods hns hnb, fun k => Iff.rfl, fun k hk hs => ?_⟩, q.iff h6 (fun k => Iff.rfl)⟩
  rcases hs with rfl | rfl
  · exact n.not h5.own.lt hns hk
  · exact n.not h5.row.lt hnb hk
theorem PgR.lim (h : PgR F w P c s G l) : 8 ≤ G.blocks ∧ G.blocks ≤ 256 ∧ 256 ≤ G.size ∧ G.size ≤ 1024 ∧ 8 ≤ l.length ∧ l.length ≤ 256 := by
  obtain ⟨d, sb, bvs, Pd, b2, C, h1, h2, h3, h4, h5, h6, h7⟩ := h
  exact ⟨h3.blocks ▸ h2.b8, h3.blocks ▸ h2.b256, h3.size ▸ h2.s256, h3.size ▸ h2.s1024, h5.len, h5.len2⟩
theorem get_eq {C : CaA} (h : CaRel C G) (id : Int) (hk : G.knows id) : C.get id = G.get id := by
  unfold CaA.get GA.get
  have e : C.check id = G.check id := by unfold CaA.check GA.check; rw [h.blocks]
  rw [e]
  cases hc : G.check id with
  | some e => rfl
  | none =>
    obtain ⟨r, hr⟩ := hk hc
    simp only [hr]
    rw [h.view _ r hr]
    rcases r with p | ⟨a, b⟩ <;> rfl
theorem pgGet (hL : Env F ad w) (hP : ∀ k, P k → F k) (h : PgR F w P c s G l) (id : Int) (hk : G.knows id) :
    Calls Tryd.prog 24 #[.pointer (some ⟨c, 0, none⟩), .int .i64 id] w (PgDone F P ad w c s G l (fun F' w' e => PageRes F' ad w' (G.get id) e)) := by
  obtain ⟨d, sb, bvs, Pd, b2, C, h1, h2, h3, h4, h5, h6, h7⟩ := h
  refine (caGet_any hL (fun k hk => hP k ((h6 k).2 (.inl hk))) h1 h2 (Nat.le_trans h3.cost h4) id).mono ?_
  rintro e w' ⟨bvs', Pd', F', C', k1, k2, k3, k4⟩
  obtain ⟨P', q1, q2⟩ := PgR.step hL hP h5 h6 h7 k1 k2.inv (k2.rel h3) h4 k3
  exact ⟨P', F', q1, q2, by rw [← get_eq h3 id hk]; exact k4⟩
theorem pgPut (hL : Env F ad w) (hP : ∀ k, P k → F k) (h : PgR F w P c s G l) (p : PageA) (bv : Value) (hb : Sl F w 1 encB bv p.body) (hg : p.gen < 18446744073709551616) (hid : 0 ≤ p.id ∧ p.id < G.blocks) (hpc : pgCheck p G.size = none) (hco : G.cost < 1000000) :
    Calls Tryd.prog 62 #[.pointer (some ⟨c, 0, none⟩), pageV p bv] w (PgDone F P ad w c s (G.put p) l (fun _ _ e => e = .returned .nilIface)) := by
  obtain ⟨d, sb, bvs, Pd, b2, C, h1, h2, h3, h4, h5, h6, h7⟩ := h
  refine (caPut_any hL (fun k hk => hP k ((h6 k).2 (.inl hk))) h1 h2 (Nat.le_trans h3.cost h4) p bv hb hg).mono ?_
  rintro e w' ⟨bvs', Pd', F', C', ev, rfl, k1, k3, k4, k5⟩
  have hE : C.putE p = none := by
    unfold CaA.putE CaA.check
    rw [if_neg (by rw [h3.blocks]; omega), h3.size]
    simp only [hpc]; rfl
  rcases k5 with ⟨_, _, _, hI, hR⟩ | ⟨hne, _⟩
  · obtain ⟨P', q1, q2⟩ := PgR.step hL hP h5 h6 h7 k1 hI (hR G h3) (by show G.cost + 1 ≤ _; omega) k3
    rw [hE] at k4
    cases k4
    exact ⟨P', F', q1, q2, rfl⟩
  · exact absurd hE hne
theorem pgDrop (hL : Env F ad w) (hP : ∀ k, P k → F k) (h : PgR F w P c s G l) (id : Nat) :
    Calls Tryd.prog 64 #[.pointer (some ⟨c, 0, none⟩), .int .i64 (id : Int)] w (PgDone F P ad w c s (G.drop id) l (fun _ _ e => ∃ b, e = .returned (.bool b))) := by
  obtain ⟨d, sb, bvs, Pd, b2, C, h1, h2, h3, h4, h5, h6, h7⟩ := h
  refine (caDrop_any hL (fun k hk => hP k ((h6 k).2 (.inl hk))) h1 h2 id).mono ?_
  rintro e w' ⟨b, bvs', C', rfl, k1, k3, k4, _, _, k5⟩
  obtain ⟨P', q1, q2⟩ := PgR.step hL hP h5 h6 h7 k1 k4 (k5 G h3) h4 k3
  exact ⟨P', F, q1, q2, b, rfl⟩
theorem waits {F : Nat → Prop} {d sb : Nat} {bvs : List Value} {Pd : Nat → Prop} {C : CaA} (h : CaR F w d c sb bvs Pd C) : ∀ p ∈ C.disk.waiting, p.1 < C.disk.blocks := by
  obtain ⟨bl, gs, ws, wv, kv, h1, h2⟩ := h.disk
  intro p hp
  obtain ⟨j, hj, e⟩ := List.getElem_of_mem hp
  have hw : j < ws.length := by rw [h1.lenW]; exact hj
  exact (h1.wrow j _ p (List.getElem?_eq_getElem hw) (by rw [← e]; exact List.getElem?_eq_getElem hj)).1
theorem pgFlush (hL : Env F ad w) (hP : ∀ k, P k → F k) (h : PgR F w P c s G l) :
    Calls Tryd.prog 20 #[.pointer (some ⟨c, 0, none⟩)] w (PgDone F P ad w c s G.flushC l (fun _ _ e => e = .returned .nilIface)) := by
  obtain ⟨d, sb, bvs, Pd, b2, C, h1, h2, h3, h4, h5, h6, h7⟩ := h
  refine (caFlush_any hL (fun k hk => hP k ((h6 k).2 (.inl hk))) h1 h2 (Nat.le_trans h3.cost h4)).mono ?_
  rintro e w' ⟨Pd', F', C', rfl, k1, k2, k3, k4⟩
  obtain ⟨P', q1, q2⟩ := PgR.step hL hP h5 h6 h7 k1 k2.inv (rel_flushC k2.inv (waits k1) (k2.rel h3) k4) h4 k3
  exact ⟨P', F', q1, q2, rfl⟩
theorem pgForget (hL : Env F ad w) (hP : ∀ k, P k → F k) (h : PgR F w P c s G l) :
    Calls Tryd.prog 21 #[.pointer (some ⟨c, 0, none⟩)] w (PgDone F P ad w c s G.forget l (fun _ _ e => e = .returned (.tuple #[]))) := by
  obtain ⟨d, sb, bvs, Pd, b2, C, h1, h2, h3, h4, h5, h6, h7⟩ := h
  refine (caForget_any hL (fun k hk => hP k ((h6 k).2 (.inl hk))) h1).mono ?_
  rintro e w' ⟨sb', bvs', F', rfl, k1, k3⟩
  obtain ⟨k4, k5⟩ := rel_forget h2 h3
  obtain ⟨P', q1, q2⟩ := PgR.step hL hP h5 h6 h7 k1 k4 k5 h4 k3
  exact ⟨P', F', q1, q2, rfl⟩
/-- the space takes a step. -/
theorem PgR.space (hL : Env F ad w) (hP : ∀ k, P k → F k) {d sb b2 : Nat} {bvs : List Value} {Pd : Nat → Prop} {C : CaA} (h1 : CaR F w d c sb bvs Pd C) (h2 : CaInv C) (h3 : CaRel C G) (h4 : G.cost ≤ 1000000) (h6 : ∀ k, P k ↔ (caF c sb Pd k ∨ spF s b2 k)) (h7 : ∀ k, caF c sb Pd k → ¬ spF s b2 k)
    (h5 : SpR w' s b2 l') (m : Mods (spF s b2) w w') : PgR F w' P c s G l' ∧ Nxt P P F F ad w w' :=
  ⟨⟨d, sb, bvs, Pd, b2, C, h1.far m h7 (fun k hk => hP k ((h6 k).2 (.inr hk))), h2, h3, h4, h5, h6, h7⟩, Nxt.same hL hP (m.mono (fun k hk => (h6 k).2 (.inr hk)))⟩
/-- what Take answers. -/
def TakeP (ad : Nat → Addr) (l : List Nat) (F' : Nat → Prop) (w' : World) (e : Ending) : Prop :=
  (∃ i, spFree l = some i ∧ i < l.length ∧ e = .returned (.tuple #[.int .i64 (i : Int), .nilIface])) ∨ (spFree l = none ∧ ∃ f, e = .returned (.tuple #[.int .i64 0, faultV f]) ∧ ErrC F' ad w' (faultV f) [-1] 3)
def spTake (l : List Nat) : List Nat := match spFree l with | some i => l.set i 2 | none => l
theorem pgTake (hL : Env F ad w) (hP : ∀ k, P k → F k) (h : PgR F w P c s G l) :
    Calls Tryd.prog 60 #[.pointer (some ⟨s, 0, none⟩)] w (PgDone F P ad w c s G (spTake l) (TakeP ad l)) := by
  obtain ⟨d, sb, bvs, Pd, b2, C, h1, h2, h3, h4, h5, h6, h7⟩ := h
  refine (spTake_any hL s b2 l h5).mono ?_
  rintro e w' (⟨i, k1, k2, rfl, k3, k4⟩ | ⟨k1, f, rfl, k3, k4⟩)
  · obtain ⟨q1, q2⟩ := PgR.space hL hP h1 h2 h3 h4 h6 h7 k3 k4
    exact ⟨P, F, by unfold spTake; rw [k1]; exact q1, q2, .inl ⟨i, k1, k2, rfl⟩⟩
  · have q := Nxt.ext hL hP k4
    exact ⟨P, F, by unfold spTake; rw [k1]; exact ⟨d, sb, bvs, Pd, b2, C, h1.at k4, h2, h3, h4, h5.mods k4 (fun f => f) (fun f => f), h6, h7⟩, q, .inr ⟨k1, f, rfl, k3⟩⟩
theorem pgGive (hL : Env F ad w) (hP : ∀ k, P k → F k) (h : PgR F w P c s G l) (id : Int) :
    Calls Tryd.prog 63 #[.pointer (some ⟨s, 0, none⟩), .int .i64 id] w (PgDone F P ad w c s G (spGive l id).1 (fun F' w' e => ∃ ev, e = .returned ev ∧ ErrR F' ad w' ev (spGive l id).2)) := by
  obtain ⟨d, sb, bvs, Pd, b2, C, h1, h2, h3, h4, h5, h6, h7⟩ := h
  refine (Give_any hL s b2 l h5 id).mono ?_
  rintro e w' ⟨ev, rfl, k1, k2, k3⟩
  obtain ⟨q1, q2⟩ := PgR.space hL hP h1 h2 h3 h4 h6 h7 k2 k3
  exact ⟨P, F, q1, q2, ev, rfl, k1⟩
theorem pgFree (h : PgR F w P c s G l) : Calls Tryd.prog 16 #[.pointer (some ⟨s, 0, none⟩)] w fun e w' => e = .returned (.int .i64 (spCount l : Nat)) ∧ w = w' := by
  obtain ⟨d, sb, bvs, Pd, b2, C, h1, h2, h3, h4, h5, h6, h7⟩ := h
  exact Free_any w s b2 l h5
/-- the disk of the cache. -/
theorem pgDisk (h : PgR F w P c s G l) : ∃ d, Hid (PgR F w P c s G l) ∧ (Calls Tryd.prog 28 #[.pointer (some ⟨c, 0, none⟩)] w fun e w' => e = .returned (.pointer (some ⟨d, 0, none⟩)) ∧ w = w') ∧
    (∀ w', Ext w w' → Calls Tryd.prog 59 #[.pointer (some ⟨d, 0, none⟩)] w' fun e w'' => e = .returned (.agg #[.int .i64 G.blocks, .int .i64 G.size]) ∧ Ext w' w'') := by
  have H := Lib.hid h
  obtain ⟨d, sb, bvs, Pd, b2, C, h1, h2, h3, h4, h5, h6, h7⟩ := h
  refine ⟨d, H, caDisk_any h1, fun w' m => ?_⟩
  rw [← h3.blocks, ← h3.size]
  exact (h1.disk.at m).geo
end
end Go.Proofs.YtidjkcfjocppmaaDoor
