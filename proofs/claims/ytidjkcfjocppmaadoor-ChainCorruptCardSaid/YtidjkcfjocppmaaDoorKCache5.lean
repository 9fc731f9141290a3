/- (*cache.Cache).Get. -/
import Derived.Test.YtidjkcfjocppmaaDoorKCache4
namespace Go.Proofs.YtidjkcfjocppmaaDoor
open Go.RowKit
attribute [local go_sem ↓] Go.wp_at_zero Go.wp_at_succ

/-- what Get answers. -/
def CaA.get (C : CaA) (id : Int) : PageA ⊕ Err :=
  match C.check id with
  | some e => .inr e
  | none => match C.vw id.toNat with
    | .inl p => .inl p
    | .inr (l, k) => .inr (-1 :: l, k)
def zeroPage : PageA := ⟨0, 0, 0, []⟩
/-- a page, or an error: as results. -/
def PageRes (F : Nat → Prop) (ad : Nat → Addr) (w : World) (r : PageA ⊕ Err) (e : Ending) : Prop :=
  (∃ p pv, r = .inl p ∧ e = .returned (.tuple #[pageV p pv, .nilIface]) ∧ Sl F w 1 encB pv p.body) ∨ (∃ (er : Err) (f : Nat), r = .inr er ∧ e = .returned (.tuple #[pageV zeroPage (.slice none 0 0), faultV f]) ∧ ErrC F ad w (faultV f) er.1 er.2)
section
variable {P P' F F' Pd Pd' : Nat → Prop} {ad : Nat → Addr} {w w' : World} {d c sb : Nat} {bvs : List Value} {C : CaA} {D : DiskA}
/-- the result's block joins what is left alone. -/
theorem Nxt.res (hL : Env F ad w) (hP : ∀ k, P k → F k) (o : Obj) : Nxt P P F (plusR F w.heap.size) ad w (w.alloc o) :=
  ⟨Stp.ext (fun k h => hL.lt k (hP k h)) ((Mods.refl _ w).alloc o), fun k h => .inl (hP k h), fun _ h => .inl h, fun k hk h => h.elim id (fun e => by omega), hL.withR ((Mods.refl _ w).alloc o) (by simp)⟩

/-- behind the result's own store. -/
theorem Nxt.resD {R : Nat} (n : Nxt P P' F F' ad w w') {w2 : World} (m : Mods (fun k => k = R) w' w2) (hR : w.heap.size ≤ R) (hF : F' R) : Nxt P P' F F' ad w w2 :=
  ⟨⟨n.stp.mods.trans' m (fun i hi e => by omega), n.stp.old, fun k h => Nat.lt_of_lt_of_le (n.stp.bd k h) m.size⟩, n.sub, n.grow, n.oldF, n.env.mods (m.mono (fun k hk => hk ▸ hF))⟩
theorem CaR.outer (h : CaR F w d c sb bvs Pd C) {G : Nat → Prop} (hG : ∀ k, k < w.heap.size → ¬ F k → ¬ G k) : CaR G w d c sb bvs Pd C :=
  ⟨h.own, h.row, h.lenB, h.n64, fun i s bv h1 h2 => (h.body i s bv h1 h2).step (Mods.refl _ _) hG, h.disk, h.cd, h.sd, h.ne⟩
theorem CaR.far (h : CaR F w d c sb bvs Pd C) {Q : Nat → Prop} (m : Mods Q w w') (hQ : ∀ k, caF c sb Pd k → ¬ Q k) (hF : ∀ k, Q k → F k) : CaR F w' d c sb bvs Pd C :=
  ⟨h.own.mods m (hQ c (.inr (.inl rfl))), h.row.at m (hQ sb (.inr (.inr rfl))), h.lenB, h.n64, fun i s bv h1 h2 => (h.body i s bv h1 h2).mods (m.mono hF), h.disk.far m (fun k hk => hQ k (.inl hk)), h.cd, h.sd, h.ne⟩
set_option maxRecDepth 100000 in
set_option maxHeartbeats 2000000 in
theorem caGet_any (hL : Env F ad w) (hP : ∀ k, caF c sb Pd k → F k) (h : CaR F w d c sb bvs Pd C) (hI : CaInv C) (hc : C.cost ≤ 1000000) (id : Int) :
    Calls Tryd.prog 24 #[.pointer (some ⟨c, 0, none⟩), .int .i64 id] w fun e w' => ∃ (bvs' : List Value) (Pd' F' : Nat → Prop) (C' : CaA), CaR F' w' d c sb bvs' Pd' C' ∧ Sim C C' ∧
      Nxt (caF c sb Pd) (caF c sb Pd') F F' ad w w' ∧ PageRes F' ad w' (C.get id) e := by
  have hX0 := Nxt.res hL hP (.cells #[.int .i64 0, .int .i64 0, .int .u64 0, .slice none 0 0] 52)
  have hC0 : CaR (plusR F w.heap.size) (w.alloc (.cells #[.int .i64 0, .int .i64 0, .int .u64 0, .slice none 0 0] 52)) d c sb bvs Pd C :=
    (h.outer (G := plusR F w.heap.size) (fun k hk hn hF => hF.elim hn (fun e => by omega))).at ((Mods.refl _ w).alloc _)
  have hB0 : Blk (w.alloc (.cells #[.int .i64 0, .int .i64 0, .int .u64 0, .slice none 0 0] 52)) w.heap.size _ _ := Blk.new w _ _
  have hnR : ¬ caF c sb Pd w.heap.size := fun f => by have := h.bdP _ f; omega
  have HN0 := Lib.hid hnR
  have HC0 := Lib.hid hC0
  have HX0 := Lib.hid hX0
  have HB0 := Lib.hid hB0
  have HI := Lib.hid hI
  have HCO := Lib.hid hc
  have HSZ : Hid (w.heap.size < (w.alloc (.cells #[.int .i64 0, .int .i64 0, .int .u64 0, .slice none 0 0] 52)).heap.size) := Lib.hid (by simp)
  have hb8 := hI.b8
  have hb256 := hI.b256
  clear h hL hP hI hc hX0 hC0 hB0 hnR
  go_enter Tryd.func24, Tryd.ntmps24
  go_wp2_with fail
  refine (caCheck_any HX0.out.env HC0.out _ id).mono ?_
  rintro e w1 ⟨ev, rfl, hE, hm⟩
  have HM1 := Lib.hid hm
  have HC1 := Lib.hid (HC0.out.at hm)
  have HB1 := Lib.hid (HB0.out.ext hm)
  have HX1 := Lib.hid (HX0.out.trans (Nxt.ext HX0.out.env HX0.out.sub hm))
  have HS1 : Hid (w.heap.size < w1.heap.size) := Lib.hid (Nat.lt_of_lt_of_le HSZ.out hm.size)
  clear hm
  cases hck : C.check id with
  | some er =>
    rw [hck] at hE
    obtain ⟨el, ek⟩ := er
    obtain ⟨f, rfl, hE⟩ := hE
    have HE := Lib.hid hE
    have HK : Hid (C.get id = .inr (el, ek)) := Lib.hid (by unfold CaA.get; rw [hck])
    have r0 := HB1.out.cell (o := 0) rfl
    have r1 := HB1.out.cell (o := 1) rfl
    have r2 := HB1.out.cell (o := 2) rfl
    have r3 := HB1.out.cell (o := 3) rfl
    have rf := HB1.out.frozen
    clear hE hck
    go_wp2_with fail
    refine bodyPost_ret (results_row_tmp rfl _ _ w.heap.size 52 #[.int .i64 0, .int .i64 0, .int .u64 0, .slice none 0 0] _ rfl (HB1.out.set4 (.int .i64 0) (.int .i64 0) (.int .u64 0) (.slice none 0 0)) Tryd.underlying52 rfl Tryd.pageSize) rfl ?_
    have mR : Mods (plusR F w.heap.size) w1 _ := Mods.set4 (Mods.refl (plusR F w.heap.size) w1) (R := w.heap.size) (.inr (.inr rfl)) (.int .i64 0) (.int .i64 0) (.int .u64 0) (.slice none 0 0)
    have mR' : Mods (fun k => k = w.heap.size) w1 _ := Mods.set4 (Mods.refl (fun k => k = w.heap.size) w1) (R := w.heap.size) (.inr rfl) (.int .i64 0) (.int .i64 0) (.int .u64 0) (.slice none 0 0)
    exact ⟨bvs, Pd, plusR F w.heap.size, C, HC1.out.far mR' (fun k hk e => HN0.out (e ▸ hk)) (fun k hk => .inr hk), Sim.refl HI.out, HX1.out.resD mR' (Nat.le_refl _) (.inr rfl), .inr ⟨(el, ek), f, HK.out, rfl, HE.out.mods mR⟩⟩
  | none =>
    rw [hck] at hE
    cases hE
    obtain ⟨n, rfl⟩ : ∃ n : Nat, id = n := ⟨id.toNat, by unfold CaA.check at hck; split at hck; cases hck; omega⟩
    have hn : n < C.disk.blocks := by unfold CaA.check at hck; split at hck; cases hck; omega
    have HCK := Lib.hid hck
    have HN := Lib.hid hn
    clear hck hn
    go_wp2_with fail
    refine (caLoad_any HX1.out.env HX1.out.sub HC1.out HI.out HCO.out n HN.out).mono ?_
    rintro e w2 ⟨bvs2, Pd2, F2, C2, hC2, hS2, hX2, hld⟩
    have HC2 := Lib.hid hC2
    have HSi2 := Lib.hid hS2
    have HX2 := Lib.hid (HX1.out.trans hX2)
    have HB2 := Lib.hid (hX2.blk HB1.out HN0.out)
    have HF2 : Hid (F2 w.heap.size) := Lib.hid (hX2.grow _ (.inr rfl))
    have HN2 : Hid (¬ caF c sb Pd2 w.heap.size) := Lib.hid (hX2.not HS1.out HN0.out)
    have HS2 : Hid (w.heap.size < w2.heap.size) := Lib.hid (Nat.lt_of_lt_of_le HS1.out hX2.size)
    clear hC2 hS2 hX2
    rcases hld with ⟨i, s, rfl, hs, hh, hv⟩ | ⟨pg, k, f, rfl, hv, hE⟩
    · obtain ⟨ba, bn, bc, hb⟩ := HC2.out.bvAt hs
      obtain ⟨e0, e1, e2, e3, e4, e5, e6, e7⟩ := HC2.out.cell8 hs hb
      obtain ⟨d0, d1, d2⟩ := HC2.out.c3
      have hlt : i < C2.slots.length := (List.getElem?_eq_some_iff.1 hs).1
      have hn2 := HC2.out.n64
      have h1 : (0 : Int) ≤ (i : Int) := by omega
      have h2 : (i : Int) < (C2.slots.length : Int) := by omega
      have HBD := Lib.hid (HC2.out.body i s _ hs hb)
      have HV : Hid (C.get (n : Int) = .inl s.page) := Lib.hid (by unfold CaA.get; rw [HCK.out]; simp only [Int.toNat_natCast]; rw [hv])
      have HLB : Hid (s.page.body.length ≤ 100000) := Lib.hid (by
        have := HSi2.out.inv.page i s hs (has_iff.1 hh).1
        have := pgCheck_none this.2.2.1
        have := HSi2.out.inv.s1024; omega)
      clear hs hh hv hb e4 e5 e6 e7 d0 d2
      go_wp2_with fail
      refine (pcloned_any HX2.out.env.lt s.page (.slice ba bn bc) HBD.out HLB.out).mono ?_
      rintro e w3 ⟨pv, rfl, hpv, hm3⟩
      obtain ⟨pa, pcap, rfl, _⟩ := _root_.id hpv
      obtain ⟨p, hp⟩ : ∃ p, p = s.page := ⟨_, rfl⟩
      rw [← hp] at hpv HV ⊢
      obtain ⟨pk, pi, pg, l⟩ := p
      have HPV := Lib.hid hpv
      have HM3 := Lib.hid hm3
      have HB3 := Lib.hid (HB2.out.ext hm3)
      have r0 := HB3.out.cell (o := 0) rfl
      have r1 := HB3.out.cell (o := 1) rfl
      have r2 := HB3.out.cell (o := 2) rfl
      have r3 := HB3.out.cell (o := 3) rfl
      have rf := HB3.out.frozen
      clear hpv hm3 hp e0 e1 e2 e3 d1
      simp only [pageV]
      go_wp2_with fail
      refine bodyPost_ret (results_row_tmp rfl _ _ w.heap.size 52 #[.int .i64 pk, .int .i64 pi, .int .u64 (pg : Int), .slice pa l.length pcap] _ rfl (HB3.out.set4 _ _ _ _) Tryd.underlying52 rfl Tryd.pageSize) rfl ?_
      have mR' : Mods (fun k => k = w.heap.size) w3 _ := Mods.set4 (Mods.refl (fun k => k = w.heap.size) w3) (R := w.heap.size) (.inr rfl) (.int .i64 pk) (.int .i64 pi) (.int .u64 (pg : Int)) (.slice pa l.length pcap)
      have mR := mR'.mono (G := F2) (fun k hk => hk ▸ HF2.out)
      have n3 := Nxt.ext HX2.out.env HX2.out.sub HM3.out
      exact ⟨bvs2, Pd2, F2, C2, (HC2.out.at HM3.out).far mR' (fun k hk e => HN2.out (e ▸ hk)) (fun k hk => hk ▸ HF2.out), HSi2.out, (HX2.out.trans n3).resD mR' (Nat.le_refl _) HF2.out, .inl ⟨⟨pk, pi, pg, l⟩, .slice pa l.length pcap, HV.out, rfl, HPV.out.mods mR⟩⟩
    · have HE := Lib.hid hE
      have HV : Hid (C.get (n : Int) = .inr (-1 :: pg, k)) := Lib.hid (by unfold CaA.get; rw [HCK.out]; simp only [Int.toNat_natCast]; rw [hv])
      clear hE hv
      go_wp2_with fail
      refine (wrap_any HX2.out.env _ _ pg k HE.out).mono ?_
      rintro e w3 ⟨f3, rfl, hE3, hm3⟩
      have HE3 := Lib.hid hE3
      have HM3 := Lib.hid hm3
      have HB3 := Lib.hid (HB2.out.ext hm3)
      have r0 := HB3.out.cell (o := 0) rfl
      have r1 := HB3.out.cell (o := 1) rfl
      have r2 := HB3.out.cell (o := 2) rfl
      have r3 := HB3.out.cell (o := 3) rfl
      have rf := HB3.out.frozen
      clear hE3 hm3
      go_wp2_with fail
      refine bodyPost_ret (results_row_tmp rfl _ _ w.heap.size 52 #[.int .i64 0, .int .i64 0, .int .u64 0, .slice none 0 0] _ rfl (HB3.out.set4 (.int .i64 0) (.int .i64 0) (.int .u64 0) (.slice none 0 0)) Tryd.underlying52 rfl Tryd.pageSize) rfl ?_
      have mR' : Mods (fun k => k = w.heap.size) w3 _ := Mods.set4 (Mods.refl (fun k => k = w.heap.size) w3) (R := w.heap.size) (.inr rfl) (.int .i64 0) (.int .i64 0) (.int .u64 0) (.slice none 0 0)
      have mR := mR'.mono (G := F2) (fun k hk => hk ▸ HF2.out)
      have n3 := Nxt.ext HX2.out.env HX2.out.sub HM3.out
      exact ⟨bvs2, Pd2, F2, C2, (HC2.out.at HM3.out).far mR' (fun k hk e => HN2.out (e ▸ hk)) (fun k hk => hk ▸ HF2.out), HSi2.out, (HX2.out.trans n3).resD mR' (Nat.le_refl _) HF2.out, .inr ⟨(-1 :: pg, k), f3, HV.out, rfl, HE3.out.mods mR⟩⟩
end
end Go.Proofs.YtidjkcfjocppmaaDoor
