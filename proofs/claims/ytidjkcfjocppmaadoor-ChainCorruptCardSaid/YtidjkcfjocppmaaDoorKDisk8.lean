/- (*block.Disk).Flush. -/
import Derived.Test.YtidjkcfjocppmaaDoorKDisk7
namespace Go.Proofs.YtidjkcfjocppmaaDoor
open Go.RowKit

def settleG : List Nat → List (Nat × Nat) → List Nat
  | l, [] => l
  | l, (i, g) :: r => settleG (l.set i g) r
theorem settleG_length : ∀ (r : List (Nat × Nat)) (l : List Nat), (settleG l r).length = l.length
  | [], _ => rfl
  | (i, g) :: r, l => by rw [settleG, settleG_length r, List.length_set]
theorem settleG_snoc : ∀ (r : List (Nat × Nat)) (l : List Nat) (p : Nat × Nat), settleG l (r ++ [p]) = (settleG l r).set p.1 p.2
  | [], _, _ => rfl
  | (i, g) :: r, l, p => by rw [List.cons_append, settleG, settleG_snoc r, settleG]
theorem mem_set {l : List Nat} {i g k : Nat} (h : k ∈ l.set i g) : k ∈ l ∨ k = g := by
  obtain ⟨j, hj, e⟩ := List.getElem_of_mem h
  rw [List.getElem_set] at e
  split at e
  · exact .inr e.symm
  · left; rw [← e]; exact List.getElem_mem _
theorem settleG_mem : ∀ (r : List (Nat × Nat)) (l : List Nat) (k : Nat), k ∈ settleG l r → k ∈ l ∨ k ∈ r.map (·.2)
  | [], _, _, h => .inl h
  | (i, g) :: r, l, k, h => by
    rw [settleG] at h
    rcases settleG_mem r _ k h with h | h
    · rcases mem_set h with h | h
      · exact .inl h
      · exact .inr (by simp [h])
    · exact .inr (by simp [h])
theorem nodup_set : ∀ (l : List Nat) (i g : Nat), l.Nodup → g ∉ l → (l.set i g).Nodup
  | [], _, _, _, _ => by simp
  | a :: l, 0, g, h, hg => by
    rw [List.set_cons_zero, List.nodup_cons]
    exact ⟨fun hm => hg (List.mem_cons_of_mem _ hm), (List.nodup_cons.1 h).2⟩
  | a :: l, i + 1, g, h, hg => by
    rw [List.set_cons_succ, List.nodup_cons]
    refine ⟨fun hm => ?_, nodup_set l i g (List.nodup_cons.1 h).2 (fun hm => hg (List.mem_cons_of_mem _ hm))⟩
    rcases mem_set hm with hm | rfl
    · exact (List.nodup_cons.1 h).1 hm
    · exact hg List.mem_cons_self
theorem settleG_nodup : ∀ (r : List (Nat × Nat)) (l : List Nat), (l ++ r.map (·.2)).Nodup → (settleG l r).Nodup
  | [], l, h => by simpa [settleG] using h
  | (i, g) :: r, l, h => by
    rw [settleG]
    rw [List.map_cons, List.nodup_append] at h
    obtain ⟨h1, h2, h3⟩ := h
    rw [List.nodup_cons] at h2
    refine settleG_nodup r _ ?_
    rw [List.nodup_append]
    refine ⟨nodup_set l i g h1 (fun hm => h3 g hm g List.mem_cons_self rfl), h2.2, fun a ha b hb e => ?_⟩
    subst e
    rcases mem_set ha with ha | rfl
    · exact h3 a ha a (List.mem_cons_of_mem _ hb) rfl
    · exact h2.1 hb
theorem settle_rows (R : Nat → List UInt8 → Prop) : ∀ (W : List (Nat × List UInt8)) (ws : List Nat) (gs : List Nat) (L : List (List UInt8)), ws.length = W.length → gs.length = L.length →
    (∀ (i g : Nat) (b : List UInt8), gs[i]? = some g → L[i]? = some b → R g b) → (∀ (i g : Nat) (p : Nat × List UInt8), ws[i]? = some g → W[i]? = some p → R g p.2) →
    ∀ (i g : Nat) (b : List UInt8), (settleG gs ((W.map (·.1)).zip ws))[i]? = some g → (settle L W)[i]? = some b → R g b
  | [], ws, gs, L, _, _, h1, _, i, g, b, hg, hb => h1 i g b (by simpa [settleG] using hg) hb
  | (j, c) :: W, [], gs, L, hl, _, _, _, _, _, _, _, _ => by simp at hl
  | (j, c) :: W, x :: ws, gs, L, hl, hl2, h1, h2, i, g, b, hg, hb => by
    rw [List.map_cons, List.zip_cons_cons, settleG] at hg
    rw [settle] at hb
    refine settle_rows R W ws (gs.set j x) (L.set j c) (by simpa using hl) (by simpa using hl2) (fun i' g' b' hg' hb' => ?_) (fun i' g' p' hg' hp' => h2 (i' + 1) g' p' (by simpa using hg') (by simpa using hp')) i g b hg hb
    rcases set_cases hg' with ⟨rfl, rfl⟩ | ⟨hne, hg'⟩
    · rcases set_cases hb' with ⟨_, rfl⟩ | ⟨hne, _⟩
      · exact h2 0 g' (i', b') (by simp) (by simp)
      · exact absurd rfl hne
    · rcases set_cases hb' with ⟨e, _⟩ | ⟨_, hb'⟩
      · exact absurd e hne
      · exact h1 i' g' b' hg' hb'

section
variable {P F : Nat → Prop} {ad : Nat → Addr} {w w' : World} {d bl : Nat} {gs ws : List Nat} {wv kv : Value} {D : DiskA}
theorem zip_snd {l : List Nat} {m : List Nat} (h : l.length = m.length) : (l.zip m).map (·.2) = m := List.map_snd_zip (by omega)
theorem DkR.waitC2 (h : DkR w d bl gs ws wv kv D) (k : Nat) (p : Nat × List UInt8) (hk : D.waiting[k]? = some p) : ∃ b c g, wv = .slice (some ⟨b, 0, none⟩) D.waiting.length c ∧ ws[k]? = some g ∧
    w.cell? ⟨b, k * 2, none⟩ = some (.int .i64 (p.1 : Int)) ∧ w.cell? ⟨b, k * 2 + 1, none⟩ = some (rowV D.size g) ∧ b ∉ d :: bl :: (gs ++ ws) ∧ p.1 < D.blocks := by
  obtain ⟨b, off, n, c, g, h1, h2, h3, h4, _, _⟩ := h.waitC k p hk
  have hr := h.wrow k g p h2 hk
  obtain ⟨_, a', c', hv⟩ := h.wvC
  rcases h.wait.1.2 with ⟨e, _⟩ | ⟨g', cap, cur, e, _⟩
  · rw [h1] at e; cases e
  · rw [h1] at e hv
    simp only [Value.slice.injEq, Option.some.injEq, Addr.mk.injEq] at e hv
    obtain ⟨⟨rfl, rfl, _⟩, _, _⟩ := e
    refine ⟨b, c, g, by rw [h1, hv.2.1], h2, by simpa using h3, by simpa using h4, h.wait.2 b (by rw [h1]; rfl), hr.1⟩
/-- what waited lasts. -/
theorem DkR.settled {w1 wr : World} (h : DkR w1 d bl gs ws wv kv D) (m : Mods (fun x => x = bl) w1 wr) {cap : Nat} {rest : List Value} (h1 : D.blocks ≤ cap) (h2 : cap ≤ 9223372036854775807)
    (hd : Blk w1 d #[.int .i64 D.blocks, .int .i64 D.size, .slice (some ⟨bl, 0, none⟩) D.blocks cap, wv, .bool D.lit, .int .i64 D.after, .int .i64 D.torn, .int .i64 D.cut, kv, .bool D.off, .int .i64 D.count] 103)
    (hb : Blk wr bl (((settleG gs ((D.waiting.map (·.1)).zip ws)).map (rowV D.size)) ++ rest).toArray 50) (hl : gs.length + rest.length = cap) :
    DkR (wr.setCell ⟨d, 3, none⟩ (.slice none 0 0)) d bl (settleG gs ((D.waiting.map (·.1)).zip ws)) [] (.slice none 0 0) kv { D with lasting := settle D.lasting D.waiting, waiting := [] } := by
  have hz : ((D.waiting.map (·.1)).zip ws).map (·.2) = ws := zip_snd (by simp [h.lenW])
  have hmem : ∀ k, k ∈ settleG gs ((D.waiting.map (·.1)).zip ws) → k ∈ gs ++ ws := fun k hk => by
    rcases settleG_mem _ _ k hk with h | h
    · exact List.mem_append_left _ h
    · rw [hz] at h; exact List.mem_append_right _ h
  have hnd := h.nodup
  have hdb : d ≠ bl := fun e => (List.nodup_cons.1 hnd).1 (by rw [e]; exact List.mem_cons_self)
  have hng : ∀ k, k ∈ gs ++ ws → k ≠ bl ∧ k ≠ d := fun k hk => ⟨fun e => (List.nodup_cons.1 (List.nodup_cons.1 hnd).2).1 (e ▸ hk), fun e => (List.nodup_cons.1 hnd).1 (e ▸ List.mem_cons_of_mem _ hk)⟩
  have hrow : ∀ (g : Nat) (b : List UInt8), (g ∈ gs ++ ws ∧ b.length = D.size ∧ Blk w1 g (bytesC b) 5) → Blk (wr.setCell ⟨d, 3, none⟩ (.slice none 0 0)) g (bytesC b) 5 := fun g b ⟨k1, _, k3⟩ => (k3.mods m (hng g k1).1).set_other (hng g k1).2 _
  have R := settle_rows (fun g b => g ∈ gs ++ ws ∧ b.length = D.size ∧ Blk w1 g (bytesC b) 5) D.waiting ws gs D.lasting h.lenW (by rw [h.lenB, h.lenL])
    (fun i g b hg hb => ⟨List.mem_append_left _ (List.mem_of_getElem? hg), h.row i g b hg hb⟩) (fun i g p hg hp => ⟨List.mem_append_right _ (List.mem_of_getElem? hg), (h.wrow i g p hg hp).2⟩)
  have nd : (d :: bl :: (settleG gs ((D.waiting.map (·.1)).zip ws) ++ [])).Nodup := by
    rw [List.append_nil, List.nodup_cons, List.nodup_cons]
    refine ⟨fun hm => ?_, fun hm => (hng bl (hmem bl hm)).1 rfl, settleG_nodup _ _ ?_⟩
    · rw [List.mem_cons] at hm
      rcases hm with hm | hm
      · exact hdb hm
      · exact (hng d (hmem d hm)).2 rfl
    · rw [hz]; exact (List.nodup_cons.1 (List.nodup_cons.1 hnd).2).2
  have hsub : ∀ k, k ∈ d :: bl :: (settleG gs ((D.waiting.map (·.1)).zip ws) ++ []) → k ∈ d :: bl :: (gs ++ ws) := fun k hk => by
    simp only [List.append_nil, List.mem_cons] at hk ⊢
    rcases hk with hk | hk | hk
    · exact .inl hk
    · exact .inr (.inl hk)
    · exact .inr (.inr (hmem k hk))
  refine ⟨⟨cap, h1, h2, ?_, rest, hb.set_other (fun e => hdb e.symm) _, by rw [settleG_length]; exact hl⟩, by rw [settleG_length]; exact h.lenB, by rw [settle_length]; exact h.lenL, rfl, ?_, fun g hg => by simp [Value.ownBlock], h.few2, Own.nil _ _ _ _ _ _,
    fun i g b hg hb => ⟨(R i g b hg hb).2.1, hrow g b (R i g b hg hb)⟩, fun i g p hg => by simp at hg, nd, h.b8, h.b256, h.s256, h.s1024, by simp⟩
  · have := (hd.mods m hdb).set 3 (.slice none 0 0)
    simpa using this
  · have k1 := (h.keep.mods m (fun g hg e => h.keep.2 g hg (e ▸ List.mem_cons_of_mem _ List.mem_cons_self))).mods (Mods.at (fun k => k = d) wr d 3 (.slice none 0 0) rfl) (fun g hg e => h.keep.2 g hg (e ▸ List.mem_cons_self))
    exact ⟨k1.1, fun g hg hm => k1.2 g hg (hsub g hm)⟩

def DkDone (F P : Nat → Prop) (ad : Nat → Addr) (w : World) (d : Nat) (D' : DiskA) (e : Ending) (w' : World) : Prop := ∃ P' F', e = .returned .nilIface ∧ DkS w' P' d D' ∧ Nxt P P' F F' ad w w'
set_option maxRecDepth 100000 in
set_option maxHeartbeats 1000000 in
theorem dkFlush_ok (hL : Env F ad w) (hP : ∀ k, P k → F k) (h : DkR w d bl gs ws wv kv D) (hD : ∀ k, P k ↔ dkF d bl gs ws wv kv k) (ho : D.off = false) (hl : D.lit = false) :
    Calls Tryd.prog 29 #[.pointer (some ⟨d, 0, none⟩)] w (DkDone F P ad w d D.flushed) := by
  have c9 := h.offC
  rw [ho] at c9
  have HL := Lib.hid hL
  have HD := Lib.hid h
  have HP := Lib.hid hP
  have HDD := Lib.hid hD
  have HO := Lib.hid ho
  clear h hL hP hD ho
  go_enter Tryd.func29, Tryd.ntmps29
  go_wp2_with fail
  refine (dkBurns_no HD.out hl).mono ?_
  rintro e w1 ⟨rfl, hD1, hm1⟩
  obtain ⟨D1, hDe⟩ : ∃ x, x = D.burns.2 := ⟨_, rfl⟩
  have hfl : D.flushed = { D1 with lasting := settle D1.lasting D1.waiting, waiting := [] } := by rw [hDe]; unfold DiskA.burns DiskA.flushed; simp [hl]
  rw [← hDe] at hD1
  have HFL := Lib.hid hfl
  have HD1 := Lib.hid hD1
  have HM1 := Lib.hid hm1
  obtain ⟨cap, a1, a2, a3, rest, a4, a5⟩ := HD1.out.own
  have hb256 := hD1.b256
  have hn6 := hD1.few
  obtain ⟨n, hn⟩ : ∃ n, n = D1.waiting.length := ⟨_, rfl⟩
  obtain ⟨c3, av, cv, hv⟩ := hD1.wvC
  rw [hv, ← hn] at c3
  rw [← hn] at hn6
  have HV := Lib.hid hv
  have HN := Lib.hid hn
  have A3 := Lib.hid a3
  have A4 := Lib.hid a4
  clear hD1 hm1 hfl hDe hv hn a3 a4
  go_wp2_with fail
  go_loopg [24] n (fun m i wr => ∃ k : Nat, k + m = n ∧ i = .int .i64 k ∧ Hid (Mods (fun x => x = bl) w1 wr ∧ Blk wr bl (((settleG gs (((D1.waiting.map (·.1)).zip ws).take k)).map (rowV D1.size)) ++ rest).toArray 50))
  case atStart => exact ⟨0, by omega, rfl, Lib.hid ⟨Mods.refl _ _, A4.out⟩⟩
  case round =>
    obtain ⟨k, hk, rfl, HW⟩ := hrel
    have hdb : d ≠ bl := fun e => (List.nodup_cons.1 HD1.out.nodup).1 (by rw [e]; exact List.mem_cons_self)
    have d3 := ((A3.out.mods HW.out.1 hdb).cell (o := 3) (v := wv) rfl)
    by_cases hlt : k < n
    · obtain ⟨p, hp⟩ : ∃ p, D1.waiting[k]? = some p := ⟨_, List.getElem?_eq_getElem (by rw [← HN.out]; exact hlt)⟩
      obtain ⟨b, c, g, e1, e2, e3, e4, e5, e6⟩ := HD1.out.waitC2 k p hp
      rw [HV.out] at e1
      simp only [Value.slice.injEq] at e1
      obtain ⟨rfl, _, rfl⟩ := e1
      have hbb : b ≠ bl := fun e => e5 (e ▸ List.mem_cons_of_mem _ List.mem_cons_self)
      have x0 := (HW.out.1.cell (cell_lt e3) hbb).trans e3
      have x1 := (HW.out.1.cell (cell_lt e4) hbb).trans e4
      simp only [rowV] at x1
      have d2 := ((A3.out.mods HW.out.1 hdb).cell (o := 2) (v := .slice (some ⟨bl, 0, none⟩) D1.blocks cap) rfl)
      have hlen : ((settleG gs (((D1.waiting.map (·.1)).zip ws).take k)).map (rowV D1.size) ++ rest).length = cap := by rw [List.length_append, List.length_map, settleG_length]; exact a5
      obtain ⟨v0, hv0⟩ : ∃ v0, wr.cell? ⟨bl, p.1, none⟩ = some v0 := ⟨_, HW.out.2.cell (by rw [List.getElem?_toArray]; exact List.getElem?_eq_getElem (by rw [hlen]; omega))⟩
      have fb := HW.out.2.frozen
      have hdl : d < wr.heap.size := cell_lt d2
      have hbl : bl < wr.heap.size := cell_lt hv0
      have hbq : b < wr.heap.size := cell_lt x0
      have HE2 := Lib.hid e2
      have HPP := Lib.hid hp
      obtain ⟨pi, pb⟩ := p
      simp only at *
      have h1 : (0 : Int) ≤ (pi : Int) := by omega
      have h2 : (pi : Int) < (D1.blocks : Int) := by omega
      have HLEN := Lib.hid hlen
      have HNX : Hid (∀ wz, wz = (wr.setCell ⟨bl, pi, none⟩ (.slice (some ⟨g, 0, none⟩) D1.size D1.size)).alloc (.cells #[.int .i64 (pi : Int), .slice (some ⟨g, 0, none⟩) D1.size D1.size] 105) → Mods (fun x => x = bl) w1 wz ∧ Blk wz bl (((settleG gs (((D1.waiting.map (·.1)).zip ws).take (k + 1))).map (rowV D1.size)) ++ rest).toArray 50) := Lib.hid (by
        rintro _ rfl
        refine ⟨(HW.out.1.setCell (.inr rfl) _).alloc _, ?_⟩
        have q := ((HW.out.2.set pi (.slice (some ⟨g, 0, none⟩) D1.size D1.size)).alloc (.cells #[.int .i64 (pi : Int), .slice (some ⟨g, 0, none⟩) D1.size D1.size] 105))
        have e : (((settleG gs (((D1.waiting.map (·.1)).zip ws).take (k + 1))).map (rowV D1.size)) ++ rest).toArray = ((((settleG gs (((D1.waiting.map (·.1)).zip ws).take k)).map (rowV D1.size)) ++ rest).toArray.setIfInBounds pi (.slice (some ⟨g, 0, none⟩) D1.size D1.size)) := by
          rw [take_one _ k (pi, g) (by rw [List.getElem?_zip_eq_some]; exact ⟨by simp [HPP.out], HE2.out⟩), settleG_snoc]
          simp only [List.map_set, List.setIfInBounds_toArray]
          rw [List.set_append_left _ _ (by rw [List.length_map, settleG_length, HD1.out.lenB]; omega)]
          rfl
        rw [e]; exact q)
      clear hp e2 e3 e4 e5 hlen d3
      go_wp2_with fail
      go_region
      go_wp2_with fail
      go_roundg (gk - 1)
      case measure => omega
      case rel => exact ⟨k + 1, by omega, by go_num, Lib.hid (by have := HNX.out _ rfl; exact ⟨this.1.drew, this.2⟩)⟩
    · obtain rfl : k = n := by omega
      have HZ : Hid (((D1.waiting.map (·.1)).zip ws).take k = (D1.waiting.map (·.1)).zip ws) := Lib.hid (List.take_of_length_le (by simp [HD1.out.lenW, HN.out]))
      have f3 : wr.frozen? ⟨d, 3, none⟩ = false := (A3.out.mods HW.out.1 hdb).frozen 3
      rw [HV.out] at d3
      go_wp2_with fail
      go_ret
      have hW2 := HW.out.2
      rw [HZ.out] at hW2
      have hs := HD1.out.settled HW.out.1 a1 a2 A3.out hW2 a5
      have hbl : P bl := (HDD.out bl).2 (.inl (List.mem_cons_of_mem _ List.mem_cons_self))
      have hd : P d := (HDD.out d).2 (.inl List.mem_cons_self)
      have m1 : Mods P w w1 := HM1.out.mono (fun x hx => hx ▸ hd)
      have m2 : Mods P w wr := m1.trans (HW.out.1.mono (fun x hx => hx ▸ hbl))
      have m3 := m2.setCell (p := ⟨d, 3, none⟩) (.inr hd) (.slice none 0 0)
      have hbd : Bd P w := fun x hx => HD.out.bdF x ((HDD.out x).1 hx)
      have st : Stp P (dkF d bl (settleG gs ((D1.waiting.map (·.1)).zip ws)) [] (.slice none 0 0) kv) w (wr.setCell ⟨d, 3, none⟩ (.slice none 0 0)) := by
        have hsub : ∀ x, dkF d bl (settleG gs ((D1.waiting.map (·.1)).zip ws)) [] (.slice none 0 0) kv x → P x := fun x hx => by
          rcases hx with hx | hx | hx
          · simp only [List.append_nil, List.mem_cons] at hx
            rcases hx with rfl | rfl | hx
            · exact hd
            · exact hbl
            · refine (HDD.out x).2 (.inl (List.mem_cons_of_mem _ (List.mem_cons_of_mem _ ?_)))
              rcases settleG_mem _ _ x hx with hx | hx
              · exact List.mem_append_left _ hx
              · rw [zip_snd (by simp [HD1.out.lenW])] at hx; exact List.mem_append_right _ hx
          · simp [Value.ownBlock] at hx
          · exact (HDD.out x).2 (.inr (.inr hx))
        exact ⟨m3, fun x _ hx => hsub x hx, fun x hx => Nat.lt_of_lt_of_le (hbd x (hsub x hx)) m3.size⟩
      refine ⟨_, _, rfl, ⟨bl, _, _, _, kv, ?_, fun k => Iff.rfl⟩, Nxt.of HL.out HP.out st⟩
      rw [HFL.out]; exact hs
end
end Go.Proofs.YtidjkcfjocppmaaDoor
