/- (*cache.Cache).Put. -/
import Derived.Test.YtidjkcfjocppmaaDoorKCache5
namespace Go.Proofs.YtidjkcfjocppmaaDoor
open Go.RowKit
attribute [local go_sem ↓] Go.wp_at_zero Go.wp_at_succ

/-- why a page is not put. -/
def CaA.putE (C : CaA) (p : PageA) : Option Err :=
  match C.check p.id with
  | some e => some e
  | none => wrapO (pgCheck p C.disk.size)
def PutP (C C' : CaA) (p : PageA) : Prop := (C.putE p = none ∧ C'.disk.blocks = C.disk.blocks ∧ C'.disk.size = C.disk.size ∧ CaInv C' ∧ ∀ G, CaRel C G → CaRel C' (G.put p)) ∨ (C.putE p ≠ none ∧ C' = C)
section
variable {P P' F F' Pd Pd' : Nat → Prop} {ad : Nat → Addr} {w w' : World} {d c sb : Nat} {bvs : List Value} {C : CaA} {D : DiskA}

theorem cellSet {w : World} {p : Addr} {x : Value} (h : w.cell? p = some x) (v : Value) : (w.setCell p v).cell? p = some v := World.cell?_setCell_same w p v h
theorem cellO {w : World} {b o o' : Nat} (h : o ≠ o') (v : Value) : (w.setCell ⟨b, o, none⟩ v).cell? ⟨b, o', none⟩ = w.cell? ⟨b, o', none⟩ := World.cell?_setCell_other w _ _ v (fun e => h (by injection e))
theorem cell7 {w : World} {b i : Nat} {x : Value} (h : w.cell? ⟨b, i * 8 + 7, none⟩ = some x) (v0 v1 v2 v3 v4 v5 v6 : Value) : (((((((w.setCell ⟨b, i * 8, none⟩ v0).setCell ⟨b, i * 8 + 1, none⟩ v1).setCell ⟨b, i * 8 + 2, none⟩ v2).setCell ⟨b, i * 8 + 3, none⟩ v3).setCell ⟨b, i * 8 + 4, none⟩ v4).setCell ⟨b, i * 8 + 5, none⟩ v5).setCell ⟨b, i * 8 + 6, none⟩ v6).cell? ⟨b, i * 8 + 7, none⟩ = some x := by
  rw [cellO (by omega), cellO (by omega), cellO (by omega), cellO (by omega), cellO (by omega), cellO (by omega), cellO (by omega)]; exact h
set_option maxRecDepth 100000 in
set_option maxHeartbeats 4000000 in
theorem caPut_any (hL : Env F ad w) (hP : ∀ k, caF c sb Pd k → F k) (h : CaR F w d c sb bvs Pd C) (hI : CaInv C) (hc : C.cost ≤ 1000000) (p : PageA) (bv : Value) (hb : Sl F w 1 encB bv p.body) (hg : p.gen < 18446744073709551616) :
    Calls Tryd.prog 62 #[.pointer (some ⟨c, 0, none⟩), pageV p bv] w fun e w' => ∃ (bvs' : List Value) (Pd' F' : Nat → Prop) (C' : CaA) (ev : Value), e = .returned ev ∧ CaR F' w' d c sb bvs' Pd' C' ∧
      Nxt (caF c sb Pd) (caF c sb Pd') F F' ad w w' ∧ ErrR F' ad w' ev (C.putE p) ∧ PutP C C' p := by
  obtain ⟨ba, bcap, rfl, _⟩ := _root_.id hb
  obtain ⟨pk, pi, pg, l⟩ := p
  simp only [pageV]
  have m0 : Ext w (w.alloc (.cells #[.int .i64 pk, .int .i64 pi, .int .u64 (pg : Int), .slice ba l.length bcap] 52)) := (Mods.refl _ w).alloc _
  have hB0 : Blk (w.alloc (.cells #[.int .i64 pk, .int .i64 pi, .int .u64 (pg : Int), .slice ba l.length bcap] 52)) w.heap.size _ _ := Blk.new w _ _
  have hnR : ¬ caF c sb Pd w.heap.size := fun f => by have := h.bdP _ f; omega
  have HN0 := Lib.hid hnR
  have HNS : Hid (w.heap.size ≠ sb) := Lib.hid (fun e => hnR (.inr (.inr e)))
  have HC0 := Lib.hid (h.at m0)
  have HX0 := Lib.hid (Nxt.ext hL hP m0)
  have HB0 := Lib.hid hB0
  have HS0 := Lib.hid (hb.ext m0)
  have HI := Lib.hid hI
  have HCO := Lib.hid hc
  have HG := Lib.hid hg
  have hb8 := hI.b8
  have hb256 := hI.b256
  have gf1 := Tryd.geoF1
  clear h hL hP hI hc hB0 hnR m0 hb hg
  go_enter Tryd.func62, Tryd.ntmps62
  go_wp2_with fail
  refine (caCheck_any HX0.out.env HC0.out _ pi).mono ?_
  rintro e w1 ⟨ev, rfl, hE, hm⟩
  have HM1 := Lib.hid hm
  have HC1 := Lib.hid (HC0.out.at hm)
  have HB1 := Lib.hid (HB0.out.ext hm)
  have HX1 := Lib.hid (HX0.out.trans (Nxt.ext HX0.out.env HX0.out.sub hm))
  have HS1 := Lib.hid (HS0.out.ext hm)
  clear hm
  cases hck : C.check pi with
  | some er =>
    rw [hck] at hE
    obtain ⟨el, ek⟩ := er
    obtain ⟨f, rfl, hE⟩ := hE
    have HE := Lib.hid hE
    have HK : Hid (C.putE ⟨pk, pi, pg, l⟩ = some (el, ek)) := Lib.hid (by unfold CaA.putE; simp only [hck])
    clear hE hck
    go_wp2_with fail
    go_ret
    exact ⟨bvs, Pd, F, C, _, rfl, HC1.out, HX1.out, by rw [HK.out]; exact ⟨f, rfl, HE.out⟩, .inr ⟨by rw [HK.out]; simp, rfl⟩⟩
  | none =>
    rw [hck] at hE
    cases hE
    obtain ⟨n, rfl⟩ : ∃ n : Nat, pi = n := ⟨pi.toNat, by unfold CaA.check at hck; split at hck; cases hck; omega⟩
    have hn : n < C.disk.blocks := by unfold CaA.check at hck; split at hck; cases hck; omega
    have HCK := Lib.hid hck
    have HN := Lib.hid hn
    obtain ⟨c0, _, _⟩ := HC1.out.c3
    have r0 := HB1.out.cell (o := 0) rfl
    have r1 := HB1.out.cell (o := 1) rfl
    have r2 := HB1.out.cell (o := 2) rfl
    have r3 := HB1.out.cell (o := 3) rfl
    have HC1d := Lib.hid (HC1.out.at (Mods.refl _ w1).drew)
    have HL1d := Lib.hid (HX1.out.env.mods (Mods.refl _ w1).drew)
    have HS1d := Lib.hid (HS1.out.ext (Mods.refl _ w1).drew)
    clear hck hn
    go_wp2_with fail
    go_region_held3 (fun w' => w'.cell? ⟨c, 0, none⟩ = some (.pointer (some ⟨d, 0, none⟩)) ∧ w'.cell? ⟨w.heap.size, 0, none⟩ = some (.int .i64 pk) ∧ w'.cell? ⟨w.heap.size, 1, none⟩ = some (.int .i64 (n : Int)) ∧ w'.cell? ⟨w.heap.size, 2, none⟩ = some (.int .u64 (pg : Int)) ∧ w'.cell? ⟨w.heap.size, 3, none⟩ = some (.slice ba l.length bcap))
      (first | exact ⟨cellE hm2 c0, cellE hm2 r0, cellE hm2 r1, cellE hm2 r2, cellE hm2 r3⟩ | exact ⟨cellE hm3 (cellE hm2 c0), cellE hm3 (cellE hm2 r0), cellE hm3 (cellE hm2 r1), cellE hm3 (cellE hm2 r2), cellE hm3 (cellE hm2 r3)⟩ | go_keep)
      (first
        | (go_at_call 59; refine (HC1d.out.disk.geo).mono ?_; rintro e w2 ⟨rfl, hm2⟩)
        | (go_at_call 81; refine (Check_any (HL1d.out.mods hm2.ext) ⟨pk, n, pg, l⟩ (.slice ba l.length bcap) (HS1d.out.ext hm2) C.disk.size).mono ?_; rintro e w3 ⟨ev, rfl, hE, hm3⟩))
    have HM3 : Hid (Ext w1 w3) := Lib.hid (hm2.ofDrew.trans hm3)
    have HL3 := Lib.hid (HX1.out.env.mods HM3.out.ext)
    cases hpc : pgCheck ⟨pk, n, pg, l⟩ C.disk.size with
    | some er =>
      rw [hpc] at hE
      obtain ⟨el, ek⟩ := er
      obtain ⟨f, rfl, hE⟩ := hE
      have HE := Lib.hid hE
      have HK : Hid (C.putE ⟨pk, n, pg, l⟩ = some (-1 :: el, ek)) := Lib.hid (by unfold CaA.putE; simp only [HCK.out, hpc]; rfl)
      have HLe : Hid (Env F ad w3) := Lib.hid HL3.out
      clear hE hpc hm2 hm3
      go_wp2_with fail
      refine (wrap_any HLe.out _ _ el ek HE.out).mono ?_
      rintro e w4 ⟨f4, rfl, hE4, hm4⟩
      have HE4 := Lib.hid hE4
      have HM4 := Lib.hid hm4
      clear hE4 hm4
      go_wp2_with fail
      go_ret
      exact ⟨bvs, Pd, F, C, _, rfl, HC1.out.at (HM3.out.trans HM4.out), HX1.out.trans (Nxt.ext HX1.out.env HX1.out.sub (HM3.out.trans HM4.out)), by rw [HK.out]; exact ⟨f4, rfl, HE4.out⟩, .inr ⟨by rw [HK.out]; simp, rfl⟩⟩
    | none =>
      rw [hpc] at hE
      cases hE
      have HK : Hid (C.putE ⟨pk, n, pg, l⟩ = none) := Lib.hid (by unfold CaA.putE; simp only [HCK.out, hpc]; rfl)
      have HPC := Lib.hid hpc
      have HLB : Hid (l.length ≤ 1000) := Lib.hid (by have := pgCheck_none hpc; have := HI.out.s1024; simp only at *; omega)
      have r1' := cellE HM3.out r1
      clear hpc hm2 hm3 r0 r1 r2 r3 c0
      go_wp2_with fail
      refine (caAt_any (HC1.out.at HM3.out) n).mono ?_
      rintro e w4 ⟨hm4, hat⟩
      have HM4 := Lib.hid hm4
      have HC4 := Lib.hid ((HC1.out.at HM3.out).at hm4)
      have HX4 := Lib.hid (HX1.out.trans (Nxt.ext HX1.out.env HX1.out.sub (HM3.out.trans hm4)))
      have HB4 := Lib.hid (HB1.out.ext (HM3.out.trans hm4))
      have HS4 := Lib.hid (HS1.out.ext (HM3.out.trans hm4))
      clear hm4 r1'
      have tail : ∀ (w5 : World) (C2 : CaA) (bvs2 : List Value) (Pd2 F2 : Nat → Prop) (i : Nat) (s : SlotA), CaR F2 w5 d c sb bvs2 Pd2 C2 → Sim C C2 → Nxt (caF c sb Pd) (caF c sb Pd2) F F2 ad w w5 → Blk w5 w.heap.size #[.int .i64 pk, .int .i64 (n : Int), .int .u64 (pg : Int), .slice ba l.length bcap] 52 → Sl F2 w5 1 encB (.slice ba l.length bcap) l → C2.slots[i]? = some s →
          (s.has n = true ∨ (s.full = false ∧ ∀ (j : Nat) (t : SlotA), C2.slots[j]? = some t → t.has n = false)) → ∃ n2 : Nat, Hid (CaR F2 w5 d c sb bvs2 Pd2 C2 ∧ Sim C C2 ∧ Nxt (caF c sb Pd) (caF c sb Pd2) F F2 ad w w5 ∧ C2.slots[i]? = some s ∧ (s.has n = true ∨ (s.full = false ∧ ∀ (j : Nat) (t : SlotA), C2.slots[j]? = some t → t.has n = false)) ∧ n2 = C2.slots.length) ∧ w5.cell? ⟨c, 1, none⟩ = some (.slice (some ⟨sb, 0, none⟩) n2 n2) ∧ i < n2 ∧ n2 ≤ 64 ∧
          (w5.cell? ⟨w.heap.size, 0, none⟩ = some (.int .i64 pk) ∧ w5.cell? ⟨w.heap.size, 1, none⟩ = some (.int .i64 (n : Int)) ∧ w5.cell? ⟨w.heap.size, 2, none⟩ = some (.int .u64 (pg : Int)) ∧ w5.cell? ⟨w.heap.size, 3, none⟩ = some (.slice ba l.length bcap)) ∧
          (∃ q0 q1 q2 qa qn qc q4 q5 q6, (w5.cell? ⟨sb, i * 8, none⟩ = some (.int .i64 q0) ∧ w5.cell? ⟨sb, i * 8 + 1, none⟩ = some (.int .i64 q1) ∧ w5.cell? ⟨sb, i * 8 + 2, none⟩ = some (.int .u64 q2) ∧ w5.cell? ⟨sb, i * 8 + 3, none⟩ = some (.slice qa qn qc)) ∧ (w5.cell? ⟨sb, i * 8 + 4, none⟩ = some (.bool q4) ∧ w5.cell? ⟨sb, i * 8 + 5, none⟩ = some (.bool q5) ∧ w5.cell? ⟨sb, i * 8 + 6, none⟩ = some (.bool q6) ∧ w5.cell? ⟨sb, i * 8 + 7, none⟩ = some (.int .i64 0))) ∧ (∀ o, w5.frozen? ⟨sb, o, none⟩ = false) ∧ Hid (Sl F2 w5.drew 1 encB (.slice ba l.length bcap) l) ∧ Hid (Bd F2 w5.drew) := by
        intro w5 C2 bvs2 Pd2 F2 i s hC hS hX hB hSl hs hx
        obtain ⟨ba, bn, bc, hb⟩ := hC.bvAt hs
        obtain ⟨e0, e1, e2, e3, e4, e5, e6, e7⟩ := hC.cell8 hs hb
        rw [hS.inv.pins i s hs] at e7
        exact ⟨_, Lib.hid ⟨hC, hS, hX, hs, hx, rfl⟩, hC.c3.2.1, (List.getElem?_eq_some_iff.1 hs).1, hC.n64, ⟨hB.cell rfl, hB.cell rfl, hB.cell rfl, hB.cell rfl⟩, ⟨_, _, _, _, _, _, _, _, _, ⟨e0, e1, e2, e3⟩, e4, e5, e6, e7⟩, hC.frz.2, Lib.hid (hSl.ext (Mods.refl _ _).drew), Lib.hid hX.env.lt⟩
      have TL := Lib.hid tail
      clear tail
      have fin : ∀ (w5 : World) (C2 : CaA) (bvs2 : List Value) (Pd2 F2 : Nat → Prop) (i : Nat) (s : SlotA) (n2 : Nat), (CaR F2 w5 d c sb bvs2 Pd2 C2 ∧ Sim C C2 ∧ Nxt (caF c sb Pd) (caF c sb Pd2) F F2 ad w w5 ∧ C2.slots[i]? = some s ∧ (s.has n = true ∨ (s.full = false ∧ ∀ (j : Nat) (t : SlotA), C2.slots[j]? = some t → t.has n = false)) ∧ n2 = C2.slots.length) →
          ∀ (w6 : World) (pa : Option Addr) (pcap : Nat), Ext w5.drew w6 → Sl F2 w6 1 encB (.slice pa l.length pcap) l → ∃ (bvs' : List Value) (Pd' F' : Nat → Prop) (C' : CaA), CaR F' (w6.setCells sb (i * 8) (slotCells ⟨⟨pk, n, pg, l⟩, true, true, true, 0⟩ (.slice pa l.length pcap))) d c sb bvs' Pd' C' ∧
          Nxt (caF c sb Pd) (caF c sb Pd') F F' ad w (w6.setCells sb (i * 8) (slotCells ⟨⟨pk, n, pg, l⟩, true, true, true, 0⟩ (.slice pa l.length pcap))) ∧ ErrR F' ad (w6.setCells sb (i * 8) (slotCells ⟨⟨pk, n, pg, l⟩, true, true, true, 0⟩ (.slice pa l.length pcap))) .nilIface (C.putE ⟨pk, n, pg, l⟩) ∧ PutP C C' ⟨pk, n, pg, l⟩ := by
        intro w5 C2 bvs2 Pd2 F2 i s n2 ⟨hC, hS, hX, hs, hx, _⟩ w6 pa pcap hm6 hpv
        have hok : pgOk ⟨pk, n, pg, l⟩ C2.disk.size := ⟨by rw [hS.size]; exact HPC.out, HG.out⟩
        have hn2 : n < C2.disk.blocks := by rw [hS.blocks]; exact HN.out
        have q2 := (hC.at hm6.ofDrew).slot' hX.sub (i := i) (List.getElem?_eq_some_iff.1 hs).1 ⟨⟨pk, n, pg, l⟩, true, true, true, 0⟩ (.slice pa l.length pcap) hpv
        have q3 : Mods (caF c sb Pd2) w6 (w6.setCells sb (i * 8) (slotCells ⟨⟨pk, n, pg, l⟩, true, true, true, 0⟩ (.slice pa l.length pcap))) := Mods.setMany (.inr (.inr (.inr rfl))) _ _ _ (Mods.refl _ _)
        have n2' := Nxt.ext hX.env hX.sub hm6.ofDrew
        have n3 := Nxt.same n2'.env n2'.sub q3
        refine ⟨_, Pd2, F2, putC C2 i ⟨pk, n, pg, l⟩, q2, (hX.trans n2').trans n3, by rw [HK.out]; rfl, .inl ⟨HK.out, hS.blocks, hS.size, ?_, fun G hG => ?_⟩⟩
        · exact inv_put hS.inv hs ⟨pk, n, pg, l⟩ n rfl hn2 hok hx
        · exact (rel_put hS.inv (hS.rel hG) hs ⟨pk, n, pg, l⟩ n rfl hn2 hok hx).2
      have FN := Lib.hid fin
      clear fin
      rcases hat with ⟨i, s, hs, hh, rfl⟩ | ⟨hno, rfl⟩
      · obtain ⟨n2, HH, d1, hlt, h64, ⟨r0, r1, r2, r3⟩, ⟨q0, q1, q2, qa, qn, qc, q4, q5, q6, ⟨e0, e1, e2, e3⟩, e4, e5, e6, e7⟩, z1, HSl, HBd⟩ := TL.out w4 C bvs Pd F i s HC4.out (Sim.refl HI.out) HX4.out HB4.out HS4.out hs (.inl hh)
        have h1 : (0 : Int) ≤ (i : Int) := by omega
        have h2 : (i : Int) < (n2 : Int) := by omega
        have hcs : c ≠ sb := HC4.out.ne
        have hsc : sb ≠ c := Ne.symm hcs
        have hbs : w.heap.size ≠ sb := HNS.out
        have hsb : sb ≠ w.heap.size := Ne.symm HNS.out
        clear hs hh
        go_wp2_with fail
        go_region_held3 (fun w' => w'.cell? ⟨c, 1, none⟩ = some (.slice (some ⟨sb, 0, none⟩) n2 n2) ∧ w'.cell? ⟨w.heap.size, 0, none⟩ = some (.int .i64 pk) ∧ w'.cell? ⟨w.heap.size, 1, none⟩ = some (.int .i64 (n : Int)) ∧ w'.cell? ⟨w.heap.size, 2, none⟩ = some (.int .u64 (pg : Int)) ∧ w'.cell? ⟨w.heap.size, 3, none⟩ = some (.slice ba l.length bcap) ∧ w'.cell? ⟨sb, i * 8 + 7, none⟩ = some (.int .i64 0))
          (first | (with_reducible exact ⟨y1, y2, y3, y4, y5, x7⟩) | (go_keep; done) | (refine ⟨?_, ?_, ?_, ?_, ?_, cellSet (x := .int .i64 0) (cell7 x7 _ _ _ _ _ _ _) _⟩ <;> go_keep))
          (first
            | (go_at_call 51; refine (pcloned_any HBd.out ⟨pk, n, pg, l⟩ (.slice ba l.length bcap) HSl.out (by have := HLB.out; simp only; omega)).mono ?_; rintro e w6 ⟨pv, rfl, hpv, hm6⟩; obtain ⟨pa, pcap, rfl, _⟩ := _root_.id hpv; simp only [pageV]; have x0 := cellE hm6 e0; have x1 := cellE hm6 e1; have x2 := cellE hm6 e2; have x3 := cellE hm6 e3; have x4 := cellE hm6 e4; have x5 := cellE hm6 e5; have x6 := cellE hm6 e6; have x7 := cellE hm6 e7; have y1 := cellE hm6 d1; have y2 := cellE hm6 r0; have y3 := cellE hm6 r1; have y4 := cellE hm6 r2; have y5 := cellE hm6 r3; have z6 : ∀ o, w6.frozen? ⟨sb, o, none⟩ = false := fun o => (hm6.frozen (cell_lt e0) (fun f => f)).trans (z1 o)))
        obtain ⟨bvs', Pd', F', C', k1, k2, k3, k4⟩ := FN.out _ _ _ _ _ _ _ _ HH.out w6 pa pcap hm6 hpv
        have K := Lib.hid (And.intro k1 (And.intro k2 (And.intro k3 k4)))
        clear k1 k2 k3 k4 hpv hm6 x0 x1 x2 x3 x4 x5 x6 x7 y1 y2 y3 y4 y5 z6
        go_wp2_with fail
        go_ret
        exact ⟨bvs', Pd', F', C', _, rfl, K.out.1, K.out.2.1, K.out.2.2.1, K.out.2.2.2⟩
      · have HNO := Lib.hid hno
        clear hno
        go_wp2_with fail
        refine (caRoom_any HX4.out.env HX4.out.sub HC4.out HI.out HCO.out).mono ?_
        rintro e w5 ⟨i, s, bvs2, Pd2, F2, C2, rfl, hC2, hS2, hX2, hs2, hf2, hsub⟩
        have hPF := HX4.out.sub
        obtain ⟨n2, HH, d1, hlt, h64, ⟨r0, r1, r2, r3⟩, ⟨q0, q1, q2, qa, qn, qc, q4, q5, q6, ⟨e0, e1, e2, e3⟩, e4, e5, e6, e7⟩, z1, HSl, HBd⟩ := TL.out w5 C2 bvs2 Pd2 F2 i s hC2 hS2 (HX4.out.trans hX2) (hX2.blk HB4.out HN0.out) (hX2.sl hPF HS4.out) hs2 (.inr ⟨hf2, hsub.no HNO.out⟩)
        have h1 : (0 : Int) ≤ (i : Int) := by omega
        have h2 : (i : Int) < (n2 : Int) := by omega
        have hcs : c ≠ sb := HC4.out.ne
        have hsc : sb ≠ c := Ne.symm hcs
        have hbs : w.heap.size ≠ sb := HNS.out
        have hsb : sb ≠ w.heap.size := Ne.symm HNS.out
        clear hC2 hS2 hX2 hs2 hf2 hsub hPF
        go_wp2_with fail
        go_region_held3 (fun w' => w'.cell? ⟨c, 1, none⟩ = some (.slice (some ⟨sb, 0, none⟩) n2 n2) ∧ w'.cell? ⟨w.heap.size, 0, none⟩ = some (.int .i64 pk) ∧ w'.cell? ⟨w.heap.size, 1, none⟩ = some (.int .i64 (n : Int)) ∧ w'.cell? ⟨w.heap.size, 2, none⟩ = some (.int .u64 (pg : Int)) ∧ w'.cell? ⟨w.heap.size, 3, none⟩ = some (.slice ba l.length bcap) ∧ w'.cell? ⟨sb, i * 8 + 7, none⟩ = some (.int .i64 0))
          (first | (with_reducible exact ⟨y1, y2, y3, y4, y5, x7⟩) | (go_keep; done) | (refine ⟨?_, ?_, ?_, ?_, ?_, cellSet (x := .int .i64 0) (cell7 x7 _ _ _ _ _ _ _) _⟩ <;> go_keep))
          (first
            | (go_at_call 51; refine (pcloned_any HBd.out ⟨pk, n, pg, l⟩ (.slice ba l.length bcap) HSl.out (by have := HLB.out; simp only; omega)).mono ?_; rintro e w6 ⟨pv, rfl, hpv, hm6⟩; obtain ⟨pa, pcap, rfl, _⟩ := _root_.id hpv; simp only [pageV]; have x0 := cellE hm6 e0; have x1 := cellE hm6 e1; have x2 := cellE hm6 e2; have x3 := cellE hm6 e3; have x4 := cellE hm6 e4; have x5 := cellE hm6 e5; have x6 := cellE hm6 e6; have x7 := cellE hm6 e7; have y1 := cellE hm6 d1; have y2 := cellE hm6 r0; have y3 := cellE hm6 r1; have y4 := cellE hm6 r2; have y5 := cellE hm6 r3; have z6 : ∀ o, w6.frozen? ⟨sb, o, none⟩ = false := fun o => (hm6.frozen (cell_lt e0) (fun f => f)).trans (z1 o)))
        obtain ⟨bvs', Pd', F', C', k1, k2, k3, k4⟩ := FN.out _ _ _ _ _ _ _ _ HH.out w6 pa pcap hm6 hpv
        have K := Lib.hid (And.intro k1 (And.intro k2 (And.intro k3 k4)))
        clear k1 k2 k3 k4 hpv hm6 x0 x1 x2 x3 x4 x5 x6 x7 y1 y2 y3 y4 y5 z6
        go_wp2_with fail
        go_ret
        exact ⟨bvs', Pd', F', C', _, rfl, K.out.1, K.out.2.1, K.out.2.2.1, K.out.2.2.2⟩
end
end Go.Proofs.YtidjkcfjocppmaaDoor
