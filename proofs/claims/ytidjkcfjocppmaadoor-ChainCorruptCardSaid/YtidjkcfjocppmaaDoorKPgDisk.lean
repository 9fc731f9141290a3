/- The disk under a pager: Flush; Forget and then Corrupt. -/
import Derived.Test.YtidjkcfjocppmaaDoorKPager
import Derived.Test.YtidjkcfjocppmaaDoorKLawC
namespace Go.Proofs.YtidjkcfjocppmaaDoor
open Go.RowKit
section
variable {P P' F F' : Nat → Prop} {ad : Nat → Addr} {w w' : World} {c s : Nat} {G G' : GA} {l l' : List Nat}
theorem pgDiskFlush (hL : Env F ad w) (hP : ∀ k, P k → F k) (h : PgR F w P c s G l) :
    ∃ d, (Calls Tryd.prog 28 #[.pointer (some ⟨c, 0, none⟩)] w fun e w' => e = .returned (.pointer (some ⟨d, 0, none⟩)) ∧ w = w') ∧
      (∀ w1, Ext w w1 → Calls Tryd.prog 29 #[.pointer (some ⟨d, 0, none⟩)] w1 (PgDone F P ad w1 c s G.flushD l (fun _ _ e => e = .returned .nilIface))) := by
  obtain ⟨d, sb, bvs, Pd, b2, C, h1, h2, h3, h4, h5, h6, h7⟩ := h
  refine ⟨d, caDisk_any h1, fun w1 m => ?_⟩
  have hL1 := hL.mods (m.ext (F := F))
  have k1 := h1.at m
  have k5 := h5.mods m (fun f => f) (fun f => f)
  obtain ⟨bl, gs, ws, wv, kv, g1, g2⟩ := k1.disk
  refine (dkFlush_ok hL1 (fun k hk => hP k ((h6 k).2 (.inl (.inl hk)))) g1 g2 h2.off h2.lit).mono ?_
  rintro e w2 ⟨Pd', F2, rfl, hD, n⟩
  have hPF : ∀ k, caF c sb Pd k → F k := fun k hk => hP k ((h6 k).2 (.inl hk))
  have kC := k1.disk' hPF n hD
  obtain ⟨q1, q2⟩ := rel_flushD h2 (waits h1) h3
  have nA := n.part (Q := fun k => k = c ∨ k = sb) (fun k hk => hPF k (.inr hk)) hL1
  obtain ⟨P2, r1, r2⟩ := PgR.step (C' := flushDC C) hL1 hP k5 h6 h7 kC q1 q2 h4 nA
  exact ⟨P2, F2, r1, r2, rfl⟩
/-- what is known behind a burst. -/
def GA.turned (G : GA) (id bit mask : Nat) : GA := { G with view := fun i => openO (upd G.look id ((G.last id).map fun b => corruptB b bit mask) i) i, look := upd G.look id ((G.last id).map fun b => corruptB b bit mask), last := upd G.last id ((G.last id).map fun b => corruptB b bit mask) }
theorem rel_turned {C : CaA} {G : GA} (h : CaInv C) (k : CaRel C G) (id bit mask : Nat) (hid : id < G.blocks) :
    CaInv ⟨{ C.disk with lasting := C.disk.lasting.set id (corruptB (C.disk.lasting.getD id []) bit mask) }, List.replicate C.slots.length slot0, 0⟩ ∧
    ((G.last id).isSome = true → CaRel ⟨{ C.disk with lasting := C.disk.lasting.set id (corruptB (C.disk.lasting.getD id []) bit mask) }, List.replicate C.slots.length slot0, 0⟩ (G.turned id bit mask)) := by
  have hid2 : id < C.disk.lasting.length := by rw [h.lenL, k.blocks]; exact hid
  have hne : ∀ i, i ≠ id → DiskA.look { C.disk with lasting := C.disk.lasting.set id (corruptB (C.disk.lasting.getD id []) bit mask) } i = C.disk.look i := fun i hi => by
    unfold DiskA.look
    simp only [List.getD]
    rw [List.getElem?_set_ne (fun e => hi e.symm)]
  have hlen : ∀ i, i < C.disk.blocks → (DiskA.look { C.disk with lasting := C.disk.lasting.set id (corruptB (C.disk.lasting.getD id []) bit mask) } i).length = C.disk.size := fun i hi => by
    by_cases e : i = id
    · subst e
      have h1 := h.len i hi
      unfold DiskA.look at h1 ⊢
      simp only at h1 ⊢
      cases hw : lookW i C.disk.waiting with
      | some b => rw [hw] at h1; exact h1
      | none =>
        rw [hw] at h1
        simp only [Option.getD_none] at h1 ⊢
        simp only [List.getD, List.getElem?_set_self hid2, Option.getD_some]
        rw [corruptB_length]
        exact h1
    · rw [hne i e]; exact h.len i hi
  refine ⟨inv_empty _ _ h.n3 h.n64 h.s256 h.s1024 h.b8 h.b256 (by rw [List.length_set]; exact h.lenL) hlen h.off h.lit, fun hs => ?_⟩
  obtain ⟨b0, hb0⟩ := Option.isSome_iff_exists.1 hs
  obtain ⟨l1, l2, _⟩ := k.last id b0 hb0
  have hat : DiskA.look { C.disk with lasting := C.disk.lasting.set id (corruptB (C.disk.lasting.getD id []) bit mask) } id = corruptB b0 bit mask := by
    unfold DiskA.look
    simp only
    rw [lookW_none id _ l2]
    simp only [Option.getD_none, List.getD, List.getElem?_set_self hid2, Option.getD_some]
    congr 1
  have hlook : ∀ i b, (G.turned id bit mask).look i = some b → DiskA.look { C.disk with lasting := C.disk.lasting.set id (corruptB (C.disk.lasting.getD id []) bit mask) } i = b := fun i b hb => by
    have hb' : upd G.look id ((G.last id).map fun b => corruptB b bit mask) i = some b := hb
    by_cases e : i = id
    · subst e
      rw [upd_self, hb0, Option.map_some] at hb'
      replace hb' := Option.some.inj hb'
      rw [hat]; exact hb'
    · rw [upd_ne _ _ e] at hb'
      rw [hne i e]; exact (k.look i b hb').1
  refine rel_empty _ _ _ k.blocks k.size (fun i r hr => ?_) hlook (fun i b hb => ?_) ?_
  · have hr' : openO (upd G.look id ((G.last id).map fun b => corruptB b bit mask) i) i = some r := hr
    unfold openO at hr'
    obtain ⟨b, hb, hr'⟩ := Option.map_eq_some_iff.1 hr'
    rw [hlook i b hb, hr']
  · have hb' : upd G.last id ((G.last id).map fun b => corruptB b bit mask) i = some b := hb
    by_cases e : i = id
    · subst e
      rw [upd_self, hb0, Option.map_some] at hb'
      replace hb' := Option.some.inj hb'
      refine ⟨?_, l2⟩
      simp only [List.getD, List.getElem?_set_self hid2, Option.getD_some]
      rw [← hb', ← l1]
      rfl
    · rw [upd_ne _ _ e] at hb'
      obtain ⟨k1, k2, _⟩ := k.last i b hb'
      refine ⟨?_, k2⟩
      rw [← k1]
      simp only [List.getD]
      rw [List.getElem?_set_ne (fun e' => e e'.symm)]
  · have := k.cost
    unfold CaA.cost at this
    show _ ≤ G.cost
    simp only
    omega
/-- behind Forget a burst is seen. -/
def TurnSees (ad : Nat → Addr) (c s : Nat) (G : GA) (l : List Nat) (P F : Nat → Prop) (w : World) : Prop :=
  ∃ d, (∀ w1, Ext w w1 → Calls Tryd.prog 28 #[.pointer (some ⟨c, 0, none⟩)] w1 fun e w' => e = .returned (.pointer (some ⟨d, 0, none⟩)) ∧ w1 = w') ∧
    (∀ w1, Ext w w1 → ∀ (id bit mask : Nat), id < G.blocks → bit < 8 * G.size → mask < 4294967296 → (G.last id).isSome = true →
      Calls Tryd.prog 30 #[.pointer (some ⟨d, 0, none⟩), .int .i64 (id : Int), .int .i64 (bit : Int), .int .u32 (mask : Int)] w1 (PgDone F P ad w1 c s (G.turned id bit mask) l (fun _ _ e => e = .returned .nilIface)))
def ForgetSees (F P : Nat → Prop) (ad : Nat → Addr) (w : World) (c s : Nat) (G : GA) (l : List Nat) (e : Ending) (w' : World) : Prop :=
  ∃ P' F', e = .returned (.tuple #[]) ∧ Nxt P P' F F' ad w w' ∧ TurnSees ad c s G l P' F' w'
theorem pgForgetSees (hL : Env F ad w) (hP : ∀ k, P k → F k) (h : PgR F w P c s G l) :
    Calls Tryd.prog 21 #[.pointer (some ⟨c, 0, none⟩)] w (ForgetSees F P ad w c s G l) := by
  obtain ⟨d, sb, bvs, Pd, b2, C, h1, h2, h3, h4, h5, h6, h7⟩ := h
  refine (caForget_any hL (fun k hk => hP k ((h6 k).2 (.inl hk))) h1).mono ?_
  rintro e w' ⟨sb', bvs', F', rfl, k1, k3⟩
  have hns : ¬ caF c sb Pd s := fun f => h7 s f (.inl rfl)
  have hnb : ¬ caF c sb Pd b2 := fun f => h7 b2 f (.inr rfl)
  have q := k3.part (Q := spF s b2) (fun k hk => hP k ((h6 k).2 (.inr hk))) hL
  have h5' := h5.mods k3.stp.mods hns hnb
  have h7' : ∀ k, caF c sb' Pd k → ¬ spF s b2 k := fun k hk hs => by
    rcases hs with rfl | rfl
    · exact k3.not h5.own.lt hns hk
    · exact k3.not h5.row.lt hnb hk
  have nP : Nxt P (fun k => caF c sb' Pd k ∨ spF s b2 k) F F' ad w w' := q.iff h6 (fun k => Iff.rfl)
  refine ⟨_, F', rfl, nP, d, fun w1 m => caDisk_any (k1.at m), fun w1 m id bit mask hid hb hm hs => ?_⟩
  have k1' := k1.at m
  obtain ⟨bl, gs, ws, wv, kv, g1, g2⟩ := k1'.disk
  have hL1 := nP.env.mods (m.ext (F := F'))
  have hPF : ∀ k, caF c sb' Pd k → F' k := fun k hk => nP.sub k (.inl hk)
  refine (dkCorrupt_ok hL1 (fun k hk => hPF k (.inl hk)) g1 g2 id bit mask (by show id < C.disk.blocks; rw [h3.blocks]; exact hid) (by show bit < 8 * C.disk.size; rw [h3.size]; exact hb) hm).mono ?_
  rintro e w2 ⟨Pd2, F2, rfl, hD, n⟩
  have kC := k1'.disk' hPF n hD
  obtain ⟨q1, q2⟩ := rel_turned h2 h3 id bit mask hid
  have nA := n.part (Q := fun k => k = c ∨ k = sb') (fun k hk => hPF k (.inr hk)) hL1
  obtain ⟨P2, r1, r2⟩ := PgR.step (P := fun k => caF c sb' Pd k ∨ spF s b2 k) (C' := ⟨{ C.disk with lasting := C.disk.lasting.set id (corruptB (C.disk.lasting.getD id []) bit mask) }, List.replicate C.slots.length slot0, 0⟩) hL1 nP.sub (h5'.mods m (fun f => f) (fun f => f)) (fun k => Iff.rfl) h7' kC q1 (q2 hs) h4 nA
  exact ⟨P2, F2, r1, r2, rfl⟩
end
end Go.Proofs.YtidjkcfjocppmaaDoor
