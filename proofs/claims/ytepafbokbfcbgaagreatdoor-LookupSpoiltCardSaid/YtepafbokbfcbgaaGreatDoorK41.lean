/- The disk under a pager: a burst, and then Forget. -/
import Derived.Test.YtepafbokbfcbgaaGreatDoorK21
namespace Go.Proofs.YtepafbokbfcbgaaGreatDoor
open Go.RowKit
section
variable {P P' F F' : Nat → Prop} {ad : Nat → Addr} {w w' : World} {c s : Nat} {G G' : GA} {l l' : List Nat}
/-- behind the burst: Forget sees it. -/
def TurnedD (F P : Nat → Prop) (ad : Nat → Addr) (w : World) (c s : Nat) (G' : GA) (l : List Nat) (e : Ending) (w2 : World) : Prop :=
  e = .returned .nilIface ∧ ∃ P2 F2, Nxt P P2 F F2 ad w w2 ∧ ∀ w3, Ext w2 w3 → Calls Tryz.prog 45 #[.pointer (some ⟨c, 0, none⟩)] w3 (PgDone F2 P2 ad w3 c s G' l (fun _ _ e => e = .returned (.tuple #[])))
theorem pgTurn (hL : Env F ad w) (hP : ∀ k, P k → F k) (h : PgR F w P c s G l) :
    ∃ d, (∀ w1, Ext w w1 → Calls Tryz.prog 42 #[.pointer (some ⟨c, 0, none⟩)] w1 fun e w' => e = .returned (.pointer (some ⟨d, 0, none⟩)) ∧ w1 = w') ∧
      (∀ w1, Ext w w1 → ∀ (id bit mask : Nat), id < G.blocks → bit < 8 * G.size → mask < 4294967296 → (G.last id).isSome = true →
        Calls Tryz.prog 44 #[.pointer (some ⟨d, 0, none⟩), .int .i64 (id : Int), .int .i64 (bit : Int), .int .u32 (mask : Int)] w1 (TurnedD F P ad w1 c s (G.turned id bit mask) l)) := by
  obtain ⟨d, sb, bvs, Pd, b2, C, h1, h2, h3, h4, h5, h6, h7⟩ := h
  refine ⟨d, fun w1 m => caDisk_any (h1.at m), fun w1 m id bit mask hid hb hm hs => ?_⟩
  have k1 := h1.at m
  have k5 := h5.mods m (fun f => f) (fun f => f)
  have hL1 := hL.mods (m.ext (F := F))
  obtain ⟨bl, gs, ws, wv, kv, g1, g2⟩ := k1.disk
  have hPF : ∀ k, caF c sb Pd k → F k := fun k hk => hP k ((h6 k).2 (.inl hk))
  refine (dkCorrupt_ok hL1 (fun k hk => hPF k (.inl hk)) g1 g2 id bit mask (by show id < C.disk.blocks; rw [h3.blocks]; exact hid) (by show bit < 8 * C.disk.size; rw [h3.size]; exact hb) hm).mono ?_
  rintro e w2 ⟨Pd2, F2, rfl, hD, n⟩
  have kC := k1.disk' hPF n hD
  have nA := n.part (Q := fun k => k = c ∨ k = sb) (fun k hk => hPF k (.inr hk)) hL1
  have hns : ¬ caF c sb Pd s := fun f => h7 s f (.inl rfl)
  have hnb : ¬ caF c sb Pd b2 := fun f => h7 b2 f (.inr rfl)
  have q := nA.part (Q := spF s b2) (fun k hk => hP k ((h6 k).2 (.inr hk))) hL1
  have k5' := k5.mods nA.stp.mods hns hnb
  have h7' : ∀ k, caF c sb Pd2 k → ¬ spF s b2 k := fun k hk hs => by
    rcases hs with rfl | rfl
    · exact nA.not k5.own.lt hns hk
    · exact nA.not k5.row.lt hnb hk
  refine ⟨rfl, fun k => caF c sb Pd2 k ∨ spF s b2 k, F2, q.iff h6 (fun k => Iff.rfl), fun w3 m3 => ?_⟩
  have hL3 := q.env.mods (m3.ext (F := F2))
  refine (caForget_any hL3 (fun k hk => q.sub k (.inl hk)) (kC.at m3)).mono ?_
  rintro e w4 ⟨sb', bvs', F', rfl, k4, k3⟩
  obtain ⟨q1, q2⟩ := rel_turned h2 h3 id bit mask hid
  obtain ⟨P', r1, r2⟩ := PgR.step hL3 q.sub (k5'.mods m3 (fun f => f) (fun f => f)) (fun k => Iff.rfl) h7' k4 q1 (q2 hs) h4 k3
  exact ⟨P', F', r1, r2, rfl⟩
end
end Go.Proofs.YtepafbokbfcbgaaGreatDoor
