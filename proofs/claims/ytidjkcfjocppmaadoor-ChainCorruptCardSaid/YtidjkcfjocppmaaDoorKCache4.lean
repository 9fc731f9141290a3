/- cache.cloned, (*cache.Cache).load. -/
import Derived.Test.YtidjkcfjocppmaaDoorKCache3
namespace Go.Proofs.YtidjkcfjocppmaaDoor
open Go.RowKit
attribute [local go_sem ↓] Go.wp_at_zero Go.wp_at_succ

section
variable {P P' F F' Pd Pd' : Nat → Prop} {ad : Nat → Addr} {w w' : World} {d c sb : Nat} {bvs : List Value} {C : CaA} {D : DiskA}

set_option maxRecDepth 100000 in
theorem pcloned_any (hF : Bd F w) (p : PageA) (bv : Value) (hb : Sl F w 1 encB bv p.body) (hl : p.body.length ≤ 100000) :
    Calls Tryd.prog 51 #[pageV p bv] w fun e w' => ∃ pv, e = .returned (pageV p pv) ∧ Sl F w' 1 encB pv p.body ∧ Ext w w' := by
  obtain ⟨pk, pi, pg, l⟩ := p
  obtain ⟨a, cap, rfl, i1, i2, i3, i4⟩ := id hb
  simp only at *
  unfold pageV
  simp only
  have hmk := run_mk (P := Tryd.prog) 50 5 (.int .u8 0) 1 Tryd.underlying50 Tryd.mkB rfl l.length (by omega) (by omega)
  have hcp : ∃ W, (Builtin.copy_ #[50, 50] 3 #[.slice (some ⟨w.heap.size + 2, 0, none⟩) l.length l.length, .slice a l.length cap]).run Tryd.prog (((w.alloc (.cells #[.int .i64 pk, .int .i64 pi, .int .u64 (pg : Int), .slice a l.length cap] 52)).alloc (.cells #[.int .i64 0, .int .i64 0, .int .u64 0, .slice none 0 0] 52)).alloc (.cells (Array.replicate l.length (.int .u8 0)) 5)) = .ok (goInt l.length) W ∧
      Blk W w.heap.size #[.int .i64 pk, .int .i64 pi, .int .u64 (pg : Int), .slice a l.length cap] 52 ∧ Blk W (w.heap.size + 1) #[.int .i64 0, .int .i64 0, .int .u64 0, .slice none 0 0] 52 ∧ Blk W (w.heap.size + 2) (l.flatMap encB).toArray 5 ∧ Ext w W := by
    have b1 : Blk (((w.alloc (.cells #[.int .i64 pk, .int .i64 pi, .int .u64 (pg : Int), .slice a l.length cap] 52)).alloc (.cells #[.int .i64 0, .int .i64 0, .int .u64 0, .slice none 0 0] 52)).alloc (.cells (Array.replicate l.length (.int .u8 0)) 5)) w.heap.size _ _ := ((Blk.new w _ _).alloc _).alloc _
    have b2 : Blk (((w.alloc (.cells #[.int .i64 pk, .int .i64 pi, .int .u64 (pg : Int), .slice a l.length cap] 52)).alloc (.cells #[.int .i64 0, .int .i64 0, .int .u64 0, .slice none 0 0] 52)).alloc (.cells (Array.replicate l.length (.int .u8 0)) 5)) (w.heap.size + 1) _ _ := Blk.alloc (heap_at (by simp)) _
    have b3 : Blk (((w.alloc (.cells #[.int .i64 pk, .int .i64 pi, .int .u64 (pg : Int), .slice a l.length cap] 52)).alloc (.cells #[.int .i64 0, .int .i64 0, .int .u64 0, .slice none 0 0] 52)).alloc (.cells (Array.replicate l.length (.int .u8 0)) 5)) (w.heap.size + 2) _ _ := heap_at (by simp)
    have mA : Ext w (((w.alloc (.cells #[.int .i64 pk, .int .i64 pi, .int .u64 (pg : Int), .slice a l.length cap] 52)).alloc (.cells #[.int .i64 0, .int .i64 0, .int .u64 0, .slice none 0 0] 52)).alloc (.cells (Array.replicate l.length (.int .u8 0)) 5)) := (((Mods.refl _ w).alloc _).alloc _).alloc _
    obtain ⟨W, h1, h2, h3⟩ := run_copy_bytes' (P := Tryd.prog) Tryd.elB 3 (w.heap.size + 2) _ _ l a cap b3 (by simp) (hb.mods mA.ext)
    exact ⟨W, h1, b1.mods h3 (by simp), b2.mods h3 (by simp), h2, mA.trans' h3 (fun i hi e => by omega)⟩
  obtain ⟨W, hc1, k1, k2, k3, km⟩ := hcp
  have c10 := k1.cell (o := 0) rfl
  have c11 := k1.cell (o := 1) rfl
  have c12 := k1.cell (o := 2) rfl
  have c13 := k1.cell (o := 3) rfl
  have c20 := k2.cell (o := 0) rfl
  have c21 := k2.cell (o := 1) rfl
  have c22 := k2.cell (o := 2) rfl
  have c23 := k2.cell (o := 3) rfl
  have f1 := k1.frozen
  have f2 := k2.frozen
  have K1 := Lib.hid k1
  have K2 := Lib.hid k2
  have K3 := Lib.hid k3
  have KM := Lib.hid km
  have HF := Lib.hid hF
  unfold maxLen at i2
  clear k1 k2 k3 km i4 hb hF
  go_enter Tryd.func51, Tryd.ntmps51
  go_wp2_with (at_builtin; refine Go.Lib.wpList_copy_run _ rfl _ _ 50 50 rfl _ _ rfl rfl hc1 ?_)
  go_wp2_with fail
  have q1 := (K2.out.set_other (p := ⟨w.heap.size, 3, none⟩) (by simp) (.slice (some ⟨w.heap.size + 2, 0, none⟩) l.length l.length)).set4 (.int .i64 pk) (.int .i64 pi) (.int .u64 (pg : Int)) (.slice (some ⟨w.heap.size + 2, 0, none⟩) l.length l.length)
  refine bodyPost_ret (results_cell_row rfl _ _ (w.heap.size + 1) 52 #[.int .i64 pk, .int .i64 pi, .int .u64 (pg : Int), .slice (some ⟨w.heap.size + 2, 0, none⟩) l.length l.length] (0, 0) _ rfl q1 Tryd.underlying52 rfl Tryd.pageSize) rfl ?_
  have m1 := KM.out.setCell (p := ⟨w.heap.size, 3, none⟩) (.inl (Nat.le_refl _)) (.slice (some ⟨w.heap.size + 2, 0, none⟩) l.length l.length)
  have m2 := m1.set4 (R := w.heap.size + 1) (.inl (by omega)) (.int .i64 pk) (.int .i64 pi) (.int .u64 (pg : Int)) (.slice (some ⟨w.heap.size + 2, 0, none⟩) l.length l.length)
  refine ⟨_, rfl, ?_, m2⟩
  have K4 : Blk W (w.heap.size + 2) (bytesC l) 5 := by rw [← bytesC_flat]; exact K3.out
  have K5 := ((((K4.set_other (p := ⟨w.heap.size, 3, none⟩) (by simp) (.slice (some ⟨w.heap.size + 2, 0, none⟩) l.length l.length)).set_other (p := ⟨w.heap.size + 1, 0, none⟩) (by simp) (.int .i64 pk)).set_other (p := ⟨w.heap.size + 1, 1, none⟩) (by simp) (.int .i64 pi)).set_other (p := ⟨w.heap.size + 1, 2, none⟩) (by simp) (.int .u64 (pg : Int))).set_other (p := ⟨w.heap.size + 1, 3, none⟩) (by simp) (.slice (some ⟨w.heap.size + 2, 0, none⟩) l.length l.length)
  exact row_sl (size := l.length) K5 rfl (fun f => by have := HF.out _ f; omega) (by omega)

theorem DkS.read (hL : Env F ad w) (h : DkS w P d D) (i : Nat) (hi : i < D.blocks) (ho : D.off = false) :
    Calls Tryd.prog 71 #[.pointer (some ⟨d, 0, none⟩), .int .i64 (i : Int)] w fun e w' => ∃ g, e = .returned (.tuple #[rowV D.size g, .nilIface]) ∧ w.heap.size ≤ g ∧ Blk w' g (bytesC (D.look i)) 5 ∧ (D.look i).length = D.size ∧ Ext w w' := by
  obtain ⟨bl, gs, ws, wv, kv, h1, h2⟩ := h
  exact dkRead_ok hL h1 i hi ho

/-- what a load leaves: the page's slot, or why there is none. -/
def LoadP (F' : Nat → Prop) (ad : Nat → Addr) (w' : World) (C C' : CaA) (id : Nat) (e : Ending) : Prop :=
  (∃ (i : Nat) (s : SlotA), e = .returned (.tuple #[.int .i64 (i : Int), .nilIface]) ∧ C'.slots[i]? = some s ∧ s.has id = true ∧ C.vw id = .inl s.page) ∨
  (∃ (pg : List Int) (k f : Nat), e = .returned (.tuple #[.int .i64 0, faultV f]) ∧ C.vw id = .inr (pg, k) ∧ ErrC F' ad w' (faultV f) pg k)
set_option maxRecDepth 100000 in
set_option maxHeartbeats 2000000 in
theorem caLoad_any (hL : Env F ad w) (hP : ∀ k, caF c sb Pd k → F k) (h : CaR F w d c sb bvs Pd C) (hI : CaInv C) (hc : C.cost ≤ 1000000) (id : Nat) (hid : id < C.disk.blocks) :
    Calls Tryd.prog 50 #[.pointer (some ⟨c, 0, none⟩), .int .i64 (id : Int)] w fun e w' => ∃ (bvs' : List Value) (Pd' F' : Nat → Prop) (C' : CaA), CaR F' w' d c sb bvs' Pd' C' ∧ Sim C C' ∧
      Nxt (caF c sb Pd) (caF c sb Pd') F F' ad w w' ∧ LoadP F' ad w' C C' id e := by
  have HC := Lib.hid h
  have HL := Lib.hid hL
  have HP := Lib.hid hP
  have HI := Lib.hid hI
  have HCO := Lib.hid hc
  have HID := Lib.hid hid
  have hn := h.n64
  clear h hL hP hI hc hid
  go_enter Tryd.func50, Tryd.ntmps50
  go_wp2_with fail
  refine (caAt_any HC.out id).mono ?_
  rintro e w1 ⟨hm, hat⟩
  have HM := Lib.hid hm
  have HC1 := Lib.hid (HC.out.at hm)
  clear hm
  rcases hat with ⟨i, s, hs, hh, rfl⟩ | ⟨hno, rfl⟩
  · obtain ⟨ba, bn, bc, hb⟩ := HC1.out.bvAt hs
    obtain ⟨e0, e1, e2, e3, e4, e5, e6, e7⟩ := HC1.out.cell8 hs hb
    obtain ⟨d0, d1, d2⟩ := HC1.out.c3
    obtain ⟨z0, z1⟩ := HC1.out.frz
    have hlt : i < C.slots.length := (List.getElem?_eq_some_iff.1 hs).1
    have HS := Lib.hid hs
    have HH := Lib.hid hh
    generalize C.slots.length = n at hn hlt d1
    have h1 : (0 : Int) ≤ (i : Int) := by omega
    have h2 : (i : Int) < (n : Int) := by omega
    clear hs hh hb e0 e1 e2 e3 e4 e5 e7
    go_wp2_with fail
    go_ret2
    have n1 := Nxt.ext (P := caF c sb Pd) HL.out HP.out HM.out
    have n2 := Nxt.same n1.env n1.sub (Mods.at (caF c sb Pd) w1 sb (i * 8 + 6) (.bool true) (.inr (.inr rfl)))
    exact ⟨bvs, Pd, F, _, HC1.out.used HP.out HS.out true, sim_same HI.out HS.out true, n1.trans n2, .inl ⟨i, { s with used := true }, rfl, set_self HS.out, HH.out, (show C.vw id = .inl s.page from HI.out.vw_at HS.out HH.out)⟩⟩
  · have HNO := Lib.hid hno
    clear hno
    have HL1 := Lib.hid (HL.out.mods HM.out.ext)
    go_wp2_with fail
    refine (caRoom_any HL1.out HP.out HC1.out HI.out HCO.out).mono ?_
    rintro e w2 ⟨i, s, bvs2, Pd2, F2, C2, rfl, hC2, hS2, hX2, hs2, hf2, hsub⟩
    have HC2 := Lib.hid hC2
    have HS2 := Lib.hid hS2
    have HX2 := Lib.hid hX2
    have HSS := Lib.hid hs2
    have HFF := Lib.hid hf2
    have HNO2 : Hid (∀ (j : Nat) (t : SlotA), C2.slots[j]? = some t → t.has id = false) := Lib.hid (hsub.no HNO.out)
    have HID2 : Hid (id < C2.disk.blocks) := Lib.hid (by rw [hS2.blocks]; exact HID.out)
    have HVW : Hid (C.vw id = openAtP (C2.disk.look id) id) := Lib.hid (by rw [← hS2.vw id]; exact vw_none HNO2.out)
    obtain ⟨d0, d1, d2⟩ := hC2.c3
    have hsz := HS2.out.inv.s1024
    have hsz2 := HS2.out.inv.s256
    clear hC2 hS2 hX2 hs2 hf2 hsub d2
    go_wp2_with fail
    refine (DkS.read HX2.out.env HC2.out.disk id HID2.out HS2.out.inv.off).mono ?_
    rintro e w3 ⟨g, rfl, hg, hB3, hlen, hm3⟩
    have HB3 : Hid (Sl F2 w3 1 encB (rowV C2.disk.size g) (C2.disk.look id)) := Lib.hid (row_sl hB3 hlen (fun f => by have := HX2.out.env.lt g f; omega) (by omega))
    have HLen := Lib.hid hlen
    have HM3 := Lib.hid hm3
    have HL3 := Lib.hid (HX2.out.env.mods hm3.ext)
    have HC3 := Lib.hid (HC2.out.at hm3)
    have p1 := cellE hm3 d1
    clear hg hB3 hlen hm3
    go_wp2_with fail
    refine (OpenAt_any HL3.out _ (C2.disk.look id) HB3.out (by rw [HLen.out]; exact hsz2) (by rw [HLen.out]; exact hsz) id).mono ?_
    rintro e w4 ⟨hm4, hr⟩
    have HM4 := Lib.hid hm4
    have HC4 := Lib.hid (HC3.out.at hm4)
    have p2 := cellE hm4 p1
    clear hm4
    rcases hr with ⟨p, pv, hop, rfl, hpv⟩ | ⟨pg, k, f, hop, rfl, hE⟩
    · obtain ⟨pa, pcap, rfl, _⟩ := _root_.id hpv
      obtain ⟨pk, pi, pg, l⟩ := p
      have HPV := Lib.hid hpv
      have HOP := Lib.hid hop
      obtain ⟨ba, bn, bc, hb⟩ := HC4.out.bvAt HSS.out
      obtain ⟨e0, e1, e2, e3, e4, e5, e6, e7⟩ := HC4.out.cell8 HSS.out hb
      obtain ⟨z0, z1⟩ := HC4.out.frz
      have hlt : i < C2.slots.length := (List.getElem?_eq_some_iff.1 HSS.out).1
      have hn2 := HC4.out.n64
      have h1 : (0 : Int) ≤ (i : Int) := by omega
      have h2 : (i : Int) < (C2.slots.length : Int) := by omega
      have hsl : sb < w4.heap.size := cell_lt e0
      have hcl : c < w4.heap.size := cell_lt p2
      clear hop hpv hb p1 d0 d1
      simp only [pageV]
      go_wp2_with fail
      go_region
      go_wp2
      go_ret2
      have q2 := HC4.out.slot' HX2.out.sub (i := i) hlt ⟨⟨pk, pi, pg, l⟩, true, false, true, 0⟩ (.slice pa l.length pcap) HPV.out
      have q3 : Mods (caF c sb Pd2) w4 (w4.setCells sb (i * 8) (slotCells ⟨⟨pk, pi, pg, l⟩, true, false, true, 0⟩ (.slice pa l.length pcap))) := Mods.setMany (.inr (.inr (.inr rfl))) _ _ _ (Mods.refl _ _)
      have q5 := openAt_inl HOP.out
      rw [HLen.out] at q5
      have q4 := sim_load HS2.out.inv HSS.out HFF.out id HID2.out HNO2.out ⟨pk, pi, pg, l⟩ HOP.out q5.2.1 q5.1
      have n1 := Nxt.ext (P := caF c sb Pd) HL.out HP.out HM.out
      have n2 := Nxt.ext HX2.out.env HX2.out.sub (HM3.out.trans HM4.out)
      have n3 := Nxt.same n2.env n2.sub ((q3.alloc (.cells #[.int .i64 pk, .int .i64 pi, .int .u64 (pg : Int), .slice pa l.length pcap] 52)).drew)
      exact ⟨_, Pd2, F2, _, q2.at ((Mods.refl _ _).alloc _).drew, HS2.out.trans q4, ((n1.trans HX2.out).trans n2).trans n3, .inl ⟨i, _, rfl, set_self HSS.out, has_iff.2 ⟨rfl, q5.2.1⟩, by rw [HVW.out, HOP.out]⟩⟩
    · have HE := Lib.hid hE
      have HOP := Lib.hid hop
      clear hop hE
      simp only [pageV]
      go_wp2_with fail
      go_ret2
      have n1 := Nxt.ext (P := caF c sb Pd) HL.out HP.out HM.out
      have n2 := Nxt.ext HX2.out.env HX2.out.sub ((HM3.out.trans HM4.out).alloc (.cells #[.int .i64 0, .int .i64 0, .int .u64 0, .slice none 0 0] 52))
      exact ⟨bvs2, Pd2, F2, C2, HC4.out.at ((Mods.refl _ _).alloc _), HS2.out, (n1.trans HX2.out).trans n2, .inr ⟨pg, k, f, rfl, by rw [HVW.out, HOP.out], HE.out.mods ((Mods.refl _ _).alloc _)⟩⟩
end
end Go.Proofs.YtidjkcfjocppmaaDoor
