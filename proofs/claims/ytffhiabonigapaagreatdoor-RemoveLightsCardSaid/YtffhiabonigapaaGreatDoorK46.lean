/- remove.both, without, gone, check of one key, pull of a short entry. | remove.pull, take, settle, Delete of the last pair of a leaf at the root. | remove.Delete of the last pair; law14.awake. | remove.Light; the reference's; RemoveLights holds. -/
import Derived.Test.YtffhiabonigapaaGreatDoorK35
import Derived.Deep.RegionHeld3
import Derived.Test.YtffhiabonigapaaGreatDoorK45
import Derived.Test.YtffhiabonigapaaGreatDoorK44
namespace Go.Proofs.YtffhiabonigapaaGreatDoor
open Go.RowKit
attribute [local go_sem ↓] Go.wp_at_zero Go.wp_at_succ
section
variable {P P' F F' H : Nat → Prop} {ad : Nat → Addr} {w w' : World} {c s : Nat} {G : GA} {l : List Nat}
set_option maxRecDepth 100000 in
theorem bothE_any (lv mv : Value) (L M : List EntryA) (hl : Sl F w 4 encE lv L) (hm : Sl H w 4 encE mv M) (hb : L.length ≤ 1000000) (hb2 : M.length ≤ 1000000) :
    Calls Tryz.prog 123 #[lv, mv] w fun e w' => ∃ a c, e = .returned (.slice a (L.length + M.length) c) ∧ Own (fun _ => False) w' w.heap.size 102 4 encE (.slice a (L.length + M.length) c) (L ++ M) ∧ Ext w w' := by
  have HL := Lib.hid hl
  have HM := Lib.hid hm
  have hO0 : Hid (Own (fun _ => False) (w.alloc (.cells #[] 102)) w.heap.size 102 4 encE (.slice (some ⟨w.heap.size, 0, none⟩) 0 0) ([] : List EntryA)) := Lib.hid (Own.empty (fun k f => f.elim) _ _ _ encE_ok.len)
  have hm0 : Hid (Ext w (w.alloc (.cells #[] 102))) := Lib.hid ((Mods.refl _ w).alloc _)
  obtain ⟨la, lc, rfl, l1, l2, l3, -⟩ := hl
  obtain ⟨ma, mc, rfl, m1, m2, m3, -⟩ := hm
  go_enter Tryz.func123, Tryz.ntmps123
  go_wp2_with (first
    | (at_builtin; refine wpl_app2 Tryz.elE encE_ok rfl _ _ rfl w.heap.size _ (.slice la L.length lc) [] L rfl rfl hO0.out (HL.out.ext hm0.out) (by simp only [List.length_nil]; omega) (by simp) (fun f => f) ?_; rw [List.nil_append, List.length_nil, Nat.zero_add]; intro a1 c1 w1 hO1 hm1 hat1; have HO1 := Lib.hid hO1; have HM1 : Hid (Ext w w1) := Lib.hid (Mods.past hm0.out (hm1.mono (fun k hk => (hO0.out.lt k hk).1))); clear hO1 hm1 hat1)
    | (at_builtin; refine wpl_app2 Tryz.elE encE_ok rfl _ _ rfl w.heap.size (.slice a1 L.length c1) (.slice ma M.length mc) L M rfl rfl HO1.out (HM.out.ext HM1.out) (by omega) HM1.out.size (fun f => f) ?_; intro a2 c2 w2 hO2 hm2 hat2; have HO2 := Lib.hid hO2; have HM2 : Hid (Ext w w2) := Lib.hid (Mods.past HM1.out (hm2.mono (fun k hk => (HO1.out.lt k hk).1))); clear hO2 hm2 hat2)
    | fail)
  go_ret
  exact ⟨_, _, rfl, HO2.out, HM2.out⟩
set_option maxRecDepth 100000 in
theorem withoutE_any (lv : Value) (L : List EntryA) (hl : Sl F w 4 encE lv L) (i : Nat) (hi : i < L.length) (hb : L.length ≤ 1000000) (q : Nat) (hq : q = L.length - 1) :
    Calls Tryz.prog 175 #[lv, .int .i64 (i : Int)] w fun e w' => ∃ a c, e = .returned (.slice a q c) ∧ Own (fun _ => False) w' w.heap.size 102 4 encE (.slice a q c) (L.take i ++ L.drop (i + 1)) ∧ Ext w w' := by
  have HL := Lib.hid hl
  obtain ⟨la, lc, rfl, l1, l2, l3, l4⟩ := hl
  unfold maxLen at l2
  have u1 : IntKind.i64.wrap ((i : Int) + 1) = ((i + 1 : Nat) : Int) := by rw [IntWalk.i64_in _ (by omega)]; omega
  have h1 : (L.take i).length = i := by rw [List.length_take]; omega
  have h2 : (L.drop (i + 1)).length = L.length - (i + 1) := List.length_drop
  have g1 : (0 : Int) ≤ (i : Int) := by omega
  have g2 : (i : Int) ≤ (lc : Int) := by omega
  have g3 : ((i + 1 : Nat) : Int) ≤ (L.length : Int) := by omega
  have g4 : (0 : Int) ≤ ((i + 1 : Nat) : Int) := by omega
  have hn : ∃ b off, la = some ⟨b, off, none⟩ := by
    rcases l4 with h | ⟨b, off, h, _⟩
    · rw [h] at hi; simp at hi
    · exact ⟨b, off, h⟩
  have HQ : Hid (i + (L.length - (i + 1)) = q) := Lib.hid (by omega)
  have p1 : Sl F w 4 encE (.slice la i lc) (L.take i) := HL.out.pre i (by omega)
  have p3 : Sl F w 4 encE (.slice (if lc = i + 1 then la else la.map (·.add ((i + 1) * 4))) (L.length - (i + 1)) (lc - (i + 1))) (L.drop (i + 1)) := HL.out.tail_ (i + 1) hi
  by_cases hc : lc = i + 1
  · rw [if_pos hc] at p3
    subst hc
    rw [Nat.sub_self, show L.length - (i + 1) = 0 by omega] at p3
    have HB := bothE_any _ _ _ _ (p1.ext (Mods.refl _ w).drew) (p3.ext (Mods.refl _ w).drew) (by omega) (by omega)
    rw [h1, h2, HQ.out] at HB
    have HB := Lib.hid HB
    clear p1 p3 h1 h2 l4 hn hq
    go_enter Tryz.func175, Tryz.ntmps175
    go_wp2_with fail
    go_region_held (fun _ => True) (trivial)
      (first
        | (go_at_call 123; (with_reducible refine HB.out.mono ?_); rintro e w1 ⟨a, c, rfl, hO, hm⟩)
        | fail)
    all_goals
      have HO := Lib.hid hO
      have HM := Lib.hid ((Mods.refl _ w).drew.trans hm)
      clear hO hm
      go_wp2_with fail
      go_ret
      exact ⟨_, _, rfl, HO.out, HM.out⟩
  · rw [if_neg hc] at p3
    have HB := bothE_any _ _ _ _ (p1.ext (Mods.refl _ w).drew) (p3.ext (Mods.refl _ w).drew) (by omega) (by omega)
    rw [h1, h2, HQ.out] at HB
    have HB := Lib.hid HB
    clear p1 p3 h1 h2 l4 hn hq
    go_enter Tryz.func175, Tryz.ntmps175
    go_wp2_with fail
    go_region_held (fun _ => True) (trivial)
      (first
        | (go_at_call 123; (with_reducible refine HB.out.mono ?_); rintro e w1 ⟨a, c, rfl, hO, hm⟩)
        | fail)
    all_goals
      have HO := Lib.hid hO
      have HM := Lib.hid ((Mods.refl _ w).drew.trans hm)
      clear hO hm
      go_wp2_with fail
      go_ret
      exact ⟨_, _, rfl, HO.out, HM.out⟩
set_option maxRecDepth 100000 in
theorem gone_any (hL : Env F ad w) (hP : ∀ k, P k → F k) (h : PgR F w P c s G l) (gen id : Nat) :
    Calls Tryz.prog 92 #[pgV c s gen, .int .i64 (id : Int)] w (PgDone F P ad w c s (G.drop id) (spGive l (id : Int)).1 (fun F' w' e => ∃ ev, e = .returned ev ∧ ErrR F' ad w' ev (spGive l (id : Int)).2)) := by
  have m0 : Ext w (w.alloc (.cells #[.pointer (some ⟨c, 0, none⟩), .pointer (some ⟨s, 0, none⟩), .int .u64 (gen : Int)] 44)) := (Mods.refl _ w).alloc _
  have HB0 := Lib.hid (Blk.new w #[.pointer (some ⟨c, 0, none⟩), .pointer (some ⟨s, 0, none⟩), .int .u64 (gen : Int)] 44)
  have HBP : Hid (¬ P w.heap.size) := Lib.hid (fun hp => by have := h.bd _ hp; omega)
  have HN0 := Lib.hid (Nxt.ext hL hP m0)
  have HDR := Lib.hid (pgDrop HN0.out.env HN0.out.sub (h.at m0) id)
  unfold pgV
  clear hL hP h m0
  go_enter Tryz.func92, Tryz.ntmps92
  go_wp2_with fail
  refine HDR.out.mono ?_
  rintro e w1 ⟨P1, F1, hG1, hN1, bb, rfl⟩
  have hB1 := hN1.blk HB0.out HBP.out
  have b1 := hB1.cell (o := 1) (v := .pointer (some ⟨s, 0, none⟩)) rfl
  have HN1 := Lib.hid (HN0.out.trans hN1)
  have HGV := Lib.hid (pgGive hN1.env hN1.sub hG1 (id : Int))
  clear hG1 hN1 hB1
  go_wp2_with fail
  refine HGV.out.mono ?_
  rintro e w2 ⟨P2, F2, hG2, hN2, ev, rfl, hev⟩
  have HG2 := Lib.hid hG2
  have HN2 := Lib.hid (HN1.out.trans hN2)
  have HEV := Lib.hid hev
  clear hG2 hN2 hev
  go_wp2_with fail
  go_ret
  exact ⟨P2, F2, HG2.out, HN2.out, ev, rfl, HEV.out⟩
set_option maxRecDepth 100000 in
theorem remCheck1_any (op : ByteArray) (gen : Nat) (key : ByteArray) (hk : keyB key = true) (kv : Value) (hkv : Sl F w 1 encS kv [key]) :
    Calls Tryz.prog 89 #[.string op, pgV c s gen, kv] w fun e w' => e = .returned .nilIface ∧ Ext w w' := by
  have m0 : Ext w (w.alloc (.cells #[.pointer (some ⟨c, 0, none⟩), .pointer (some ⟨s, 0, none⟩), .int .u64 (gen : Int)] 44)) := (Mods.refl _ w).alloc _
  obtain ⟨ka, kc, rfl, k1, k2, k3, kk⟩ := hkv
  obtain ⟨b, off, rfl, _, _, hc⟩ := Sl.at kk m0 (fun _ _ f => f.elim) 0 (by simp)
  have c0 := hc 0 (.string key) rfl
  simp only [Nat.zero_mul, Nat.add_zero] at c0
  have hne : key.toList ≠ [] := fun e => by
    have := (keyB_iff key).1 hk
    have h0 : key.size = 0 := by rw [← size_toList, ← ByteArray.toList_eq, e]; rfl
    omega
  have hne3 : key.toList.isEmpty = false := by
    cases h : key.toList with
    | nil => exact absurd h hne
    | cons _ _ => rfl
  have M0 := Lib.hid m0
  have HK := Lib.hid (key_any key)
  rw [hk] at HK
  unfold pgV
  clear m0 kk hc hk
  go_enter Tryz.func89, Tryz.ntmps89
  go_wp2_with fail
  go_loopg [22] 1 (fun m i wr => ∃ k : Nat, k + m = 1 ∧ i = .int .i64 (k : Int) ∧ Hid (wr = w.alloc (.cells #[.pointer (some ⟨c, 0, none⟩), .pointer (some ⟨s, 0, none⟩), .int .u64 (gen : Int)] 44)))
  case atStart => exact ⟨0, by omega, rfl, Lib.hid rfl⟩
  case round =>
    obtain ⟨k, hkm, rfl, HW⟩ := hrel
    obtain rfl := HW.out
    rcases Nat.eq_zero_or_pos k with hk0 | hk0
    · subst hk0
      go_wp2_with fail
      refine (HK.out _).mono ?_
      rintro e w1 ⟨rfl, rfl⟩
      go_wp2_with fail
      go_roundg 0
      case measure => omega
      case rel => exact ⟨1, by omega, by go_num, Lib.hid rfl⟩
    · obtain rfl : k = 1 := by omega
      go_wp2_with fail
      go_ret
      exact ⟨rfl, M0.out⟩
end
end Go.Proofs.YtffhiabonigapaaGreatDoor
namespace Go.Proofs.YtffhiabonigapaaGreatDoor
open Go.RowKit
attribute [local go_sem ↓] Go.wp_at_zero Go.wp_at_succ
theorem Tryz.remSz : (Tryz.prog.info? 160).map (·.size) = some 5 := by kernel_rfl
abbrev remZc : Array Value := #[.bool false, .slice none 0 0, .slice none 0 0, .slice none 0 0, .bool false]
/-- what became of a leaf that was all one pair. -/
def PullR (_F : Nat → Prop) (_w : World) (e : Ending) : Prop :=
  ∃ (ea : Option Addr) (ec : Nat) (ka : Option Addr) (kc : Nat) (ia : Option Addr) (ic : Nat), e = .returned (.tuple #[.agg #[.bool true, .slice ea 0 ec, .slice ka 0 kc, .slice ia 0 ic, .bool true], .nilIface])
theorem PullR.form {F : Nat → Prop} {w : World} {e : Ending} (h : PullR F w e) : ∃ a b, e = .returned (.tuple #[a, b]) := by
  obtain ⟨_, _, _, _, _, _, h⟩ := h
  exact ⟨_, _, h⟩
section
variable {P P' F F' H : Nat → Prop} {ad : Nat → Addr} {w w' : World} {c s : Nat} {G : GA} {l : List Nat}
theorem leaf1_find (key v : ByteArray) : findN (leaf1 key v) key = (0, true) := by
  rw [findN_leaf rfl]
  have h1 : ltS key key = false := ltS_irrefl key
  unfold leaf1 entAt entIs
  simp [entAt, h1]
set_option maxRecDepth 100000 in
set_option maxHeartbeats 1000000 in
theorem pull1_any (gen : Nat) (key v : ByteArray) (ve vk vi : Value) (hve : Sl F w 4 encE ve (leaf1 key v).entries) (hvk : Sl F w 1 encS vk (leaf1 key v).keys) (hvi : Sl F w 1 encI vi (leaf1 key v).kids) :
    Calls Tryz.prog 134 #[pgV c s gen, .agg #[.bool true, ve, vk, vi], .string key] w fun e w' => PullR F w' e ∧ Ext w w' := by
  have hfd0 := fun W (m : Ext w W) => findNode_any (w := W) (leaf1 key v) key ve vk vi (hve.ext m) (hvk.ext m)
  rw [leaf1_find] at hfd0
  have HVE := Lib.hid hve
  obtain ⟨ea, ec, rfl, e1, e2, _, ee⟩ := hve
  obtain ⟨ka, kc, rfl, _, _, _, _⟩ := hvk
  obtain ⟨ia, ic, rfl, _, _, _, _⟩ := hvi
  have hn : ∃ b off, ea = some ⟨b, off, none⟩ := by
    rcases ee with h | ⟨b, off, h, _⟩
    · simp [leaf1] at h
    · exact ⟨b, off, h⟩
  obtain ⟨eb, eo, rfl⟩ := hn
  have HEC := Lib.hid ee
  change 1 ≤ ec at e1
  change Calls Tryz.prog 134 #[pgV c s gen, .agg #[.bool true, .slice (some ⟨eb, eo, none⟩) 1 ec, .slice ka 0 kc, .slice ia 0 ic], .string key] _ _
  unfold maxLen at e2
  obtain ⟨w1, hw1⟩ : ∃ w1, w1 = ((w.alloc (.cells #[.pointer (some ⟨c, 0, none⟩), .pointer (some ⟨s, 0, none⟩), .int .u64 (gen : Int)] 44)).alloc (.cells #[.bool true, .slice (some ⟨eb, eo, none⟩) 1 ec, .slice ka 0 kc, .slice ia 0 ic] 26)).alloc (.cells remZc 160) := ⟨_, rfl⟩
  have m1 : Ext w w1 := by rw [hw1]; exact (((Mods.refl _ w).alloc _).alloc _).alloc _
  have HD : Hid (Blk w1 (w.heap.size + 1) #[.bool true, .slice (some ⟨eb, eo, none⟩) 1 ec, .slice ka 0 kc, .slice ia 0 ic] 26) := Lib.hid (by rw [hw1]; exact (show Blk ((w.alloc _).alloc _) (w.heap.size + 1) _ 26 from heap_at (by simp)).alloc _)
  have HR : Hid (Blk w1 (w.heap.size + 1 + 1) remZc 160) := Lib.hid (by rw [hw1]; exact heap_at (by simp))
  have HFD := Lib.hid (hfd0 w1 m1)
  have M1 := Lib.hid m1
  have HW1 := Lib.hid hw1
  unfold pgV
  clear hfd0 m1 hw1 ee
  go_enter Tryz.func134, Tryz.ntmps134
  go_wp2_with fail
  rw [← HW1.out]
  refine (show Calls Tryz.prog 96 #[.agg #[.bool true, .slice (some ⟨eb, eo, none⟩) 1 ec, .slice ka 0 kc, .slice ia 0 ic], .string key] w1 (fun x w' => x = .returned (.tuple #[.int .i64 0, .bool true]) ∧ Ext w1 w') from HFD.out).mono ?_
  rintro e w2 ⟨rfl, hm2⟩
  have M2 := Lib.hid (M1.out.trans hm2)
  have hD2 := HD.out.ext hm2
  have d1 := hD2.cell (o := 1) (v := .slice (some ⟨eb, eo, none⟩) 1 ec) rfl
  obtain ⟨b, off, hbo, _, _, hc⟩ := Sl.at HEC.out M2.out (fun _ _ f => f.elim) 0 (by simp [leaf1])
  injection hbo with hbo
  injection hbo with hb1 hb2
  subst hb1 hb2
  have c0 := hc 0 (.string key) rfl
  have c1 := hc 1 (.string v) rfl
  have c2 := hc 2 (.int .i64 0) rfl
  have c3 := hc 3 (.int .i64 0) rfl
  simp only [Nat.zero_mul, Nat.add_zero] at c0 c1 c2 c3
  have HD2 := Lib.hid hD2
  have HR2 := Lib.hid (HR.out.ext hm2)
  clear hm2 hD2 hc
  have d1a := cell_alloc d1 (.cells #[.string key, .string v, .int .i64 0, .int .i64 0] 102)
  have m3 : Ext w2 (w2.alloc (.cells #[.string key, .string v, .int .i64 0, .int .i64 0] 102)) := (Mods.refl _ _).alloc _
  have HWO := withoutE_any _ (leaf1 key v).entries (HVE.out.ext (M2.out.trans m3)) 0 (by simp [leaf1]) (by simp [leaf1]) 0 rfl
  have HWO := Lib.hid (show Calls Tryz.prog 175 #[.slice (some ⟨eb, eo, none⟩) 1 ec, .int .i64 0] (w2.alloc (.cells #[.string key, .string v, .int .i64 0, .int .i64 0] 102)) _ from HWO)
  have HM3 := Lib.hid m3
  clear m3
  go_wp2_with fail
  refine HWO.out.mono ?_
  rintro e w3 ⟨a3, c3', rfl, _, hm3⟩
  have hD3 := HD2.out.ext (HM3.out.trans hm3)
  have hR3 := HR2.out.ext (HM3.out.trans hm3)
  have d0 := hD3.cell (o := 0) (v := .bool true) rfl
  have d1 := hD3.cell (o := 1) (v := .slice (some ⟨eb, eo, none⟩) 1 ec) rfl
  have d2 := hD3.cell (o := 2) (v := .slice ka 0 kc) rfl
  have d3 := hD3.cell (o := 3) (v := .slice ia 0 ic) rfl
  have df := hD3.frozen
  have r0 := hR3.cell (o := 0) rfl
  have r1 := hR3.cell (o := 1) rfl
  have r2 := hR3.cell (o := 2) rfl
  have r3 := hR3.cell (o := 3) rfl
  have r4 := hR3.cell (o := 4) rfl
  have rf := hR3.frozen
  have HR3 := Lib.hid hR3
  have M3 := Lib.hid (M2.out.trans (HM3.out.trans hm3))
  clear hD3 hR3 hm3
  go_wp2_with fail
  have mD := Mods.at (fun k => k = w.heap.size + 1) w3 (w.heap.size + 1) 1 (.slice a3 0 c3') rfl
  have hR4 := HR3.out.mods mD (by omega)
  have bR := hR4.set5 (.bool true) (.slice a3 0 c3') (.slice ka 0 kc) (.slice ia 0 ic) (.bool true)
  have mX := Mods.set5 (M3.out.setCell (p := ⟨w.heap.size + 1, 1, none⟩) (.inl (by simp)) (.slice a3 0 c3')) (R := w.heap.size + 1 + 1) (.inl (by omega)) (.bool true) (.slice a3 0 c3') (.slice ka 0 kc) (.slice ia 0 ic) (.bool true)
  refine bodyPost_ret (results_row_tmp rfl _ _ (w.heap.size + 1 + 1) 160 _ _ rfl bR Tryz.underlying160 rfl Tryz.remSz) rfl ?_
  exact ⟨⟨_, _, _, _, _, _, rfl⟩, mX⟩
set_option maxRecDepth 100000 in
set_option maxHeartbeats 1000000 in
theorem take1_any (hL : Env F ad w) (hP : ∀ k, P k → F k) (h : PgR F w P c s G l) (gen id : Nat) (key v : ByteArray) (hk : G.knows (id : Int)) (hld : G.load (id : Int) = .inl (leaf1 key v)) :
    Calls Tryz.prog 90 #[pgV c s gen, .int .i64 (id : Int), .int .i64 1, .string key] w (PgDone F P ad w c s G l (fun F' w' e => PullR F' w' e)) := by
  obtain ⟨w1, hw1⟩ : ∃ w1, w1 = (w.alloc (.cells #[.pointer (some ⟨c, 0, none⟩), .pointer (some ⟨s, 0, none⟩), .int .u64 (gen : Int)] 44)).alloc (.cells remZc 160) := ⟨_, rfl⟩
  have m1 : Ext w w1 := by rw [hw1]; exact ((Mods.refl _ w).alloc _).alloc _
  have hz : w1.heap.size = w.heap.size + 2 := by rw [hw1]; simp
  have hN : Nxt P P F (fun k => F k ∨ (w.heap.size ≤ k ∧ k < w1.heap.size)) ad w w1 := Nxt.new hL hP (Q := fun k => w.heap.size ≤ k ∧ k < w1.heap.size) m1 (fun k hk => hk.1) (fun k hk => hk.2)
  have HB := Lib.hid (show VarR (fun k => F k ∨ (w.heap.size ≤ k ∧ k < w1.heap.size)) P w w1 w.heap.size #[.pointer (some ⟨c, 0, none⟩), .pointer (some ⟨s, 0, none⟩), .int .u64 (gen : Int)] 44 from ⟨by rw [hw1]; exact (Blk.new w _ _).alloc _, .inr ⟨by omega, by omega⟩, fun hp => by have := h.bd _ hp; omega, by omega⟩)
  have HR := Lib.hid (show VarR (fun k => F k ∨ (w.heap.size ≤ k ∧ k < w1.heap.size)) P w w1 (w.heap.size + 1) remZc 160 from ⟨by rw [hw1]; exact heap_at (by simp), .inr ⟨by omega, by omega⟩, fun hp => by have := h.bd _ hp; omega, by omega⟩)
  have hG := h.plusNew hP (Q := fun k => w.heap.size ≤ k ∧ k < w1.heap.size) m1 (fun k hk => hk.1)
  have HLD := load_any hN.env hN.sub hG gen (id : Int) hk
  rw [hld] at HLD
  unfold pgV at HLD
  have HLD := HLD.mono (R' := PgDone (fun k => F k ∨ (w.heap.size ≤ k ∧ k < w1.heap.size)) P ad w1 c s G l (fun F' w' e => ∃ (ea : Option Addr) (ec : Nat) (ka : Option Addr) (kc : Nat) (ia : Option Addr) (ic : Nat), e = .returned (.tuple #[.agg #[.bool true, .slice ea 1 ec, .slice ka 0 kc, .slice ia 0 ic], .nilIface]) ∧ Sl F' w' 4 encE (.slice ea 1 ec) (leaf1 key v).entries ∧ Sl F' w' 1 encS (.slice ka 0 kc) (leaf1 key v).keys ∧ Sl F' w' 1 encI (.slice ia 0 ic) (leaf1 key v).kids)) (by
    rintro e w2 ⟨P2, F2, hG2, hN2, ve, vk, vi, rfl, hse, hsk, hsi⟩
    obtain ⟨ea, ec, rfl, _, _, _, _⟩ := _root_.id hse
    obtain ⟨ka, kc, rfl, _, _, _, _⟩ := _root_.id hsk
    obtain ⟨ia, ic, rfl, _, _, _, _⟩ := _root_.id hsi
    exact ⟨P2, F2, hG2, hN2, ea, ec, ka, kc, ia, ic, rfl, hse, hsk, hsi⟩)
  have HLD := Lib.hid HLD
  have HN := Lib.hid hN
  have HW1 := Lib.hid hw1
  have b0 := HB.out.blk.cell (o := 0) rfl
  have b1 := HB.out.blk.cell (o := 1) rfl
  have b2 := HB.out.blk.cell (o := 2) rfl
  unfold pgV
  clear hL hP h hk hld m1 hw1 hN hG
  go_enter Tryz.func90, Tryz.ntmps90
  go_wp2_with fail
  rw [← HW1.out]
  refine HLD.out.mono ?_
  rintro e w2 ⟨P2, F2, hG2, hN2, ea, ec, ka, kc, ia, ic, rfl, hse, hsk, hsi⟩
  obtain ⟨w3, hw3⟩ : ∃ w3, w3 = w2.alloc (.cells #[.bool true, .slice ea 1 ec, .slice ka 0 kc, .slice ia 0 ic] 26) := ⟨_, rfl⟩
  have m3 : Ext w2 w3 := by rw [hw3]; exact (Mods.refl _ _).alloc _
  have HPL := pull1_any (c := c) (s := s) gen key v _ _ _ (hse.ext m3) (hsk.ext m3) (hsi.ext m3)
  have HPL := Lib.hid (show Calls Tryz.prog 134 #[.agg #[.pointer (some ⟨c, 0, none⟩), .pointer (some ⟨s, 0, none⟩), .int .u64 (gen : Int)], .agg #[.bool true, .slice ea 1 ec, .slice ka 0 kc, .slice ia 0 ic], .string key] w3 _ from HPL)
  have HR3 := Lib.hid ((HR.out.nxt hN2).ext m3)
  have hB3 := (HB.out.nxt hN2).ext m3
  have b0 := hB3.blk.cell (o := 0) rfl
  have b1 := hB3.blk.cell (o := 1) rfl
  have b2 := hB3.blk.cell (o := 2) rfl
  have hX := Blk.new w2 #[.bool true, .slice ea 1 ec, .slice ka 0 kc, .slice ia 0 ic] 26
  rw [← hw3] at hX
  have x0 := hX.cell (o := 0) rfl
  have x1 := hX.cell (o := 1) rfl
  have x2 := hX.cell (o := 2) rfl
  have x3 := hX.cell (o := 3) rfl
  have HG3 := Lib.hid (hG2.at m3)
  have HN3 := Lib.hid ((HN.out.trans hN2).trans (Nxt.ext hN2.env hN2.sub m3))
  clear hse hsk hsi hB3 hX hG2 hN2 m3
  subst hw3
  go_wp2_with fail
  refine HPL.out.mono ?_
  rintro e w4 ⟨⟨a4, c4, k4, d4, i4, j4, rfl⟩, hm4⟩
  have hR4 := HR3.out.ext hm4
  have r0 := hR4.blk.cell (o := 0) rfl
  have r1 := hR4.blk.cell (o := 1) rfl
  have r2 := hR4.blk.cell (o := 2) rfl
  have r3 := hR4.blk.cell (o := 3) rfl
  have r4 := hR4.blk.cell (o := 4) rfl
  have rf := hR4.blk.frozen
  have HR4 := Lib.hid hR4
  have HG4 := Lib.hid (HG3.out.at hm4)
  have HN4 := Lib.hid (HN3.out.trans (Nxt.ext HN3.out.env HN3.out.sub hm4))
  clear hR4 hm4
  go_wp2_with fail
  have mR := Mods.set5 (F := fun k => k = w.heap.size + 1) (Mods.refl _ w4) (R := w.heap.size + 1) (.inr rfl) (.bool true) (.slice a4 0 c4) (.slice k4 0 d4) (.slice i4 0 j4) (.bool true)
  have bR := HR4.out.blk.set5 (.bool true) (.slice a4 0 c4) (.slice k4 0 d4) (.slice i4 0 j4) (.bool true)
  refine bodyPost_ret (results_row_tmp rfl _ _ (w.heap.size + 1) 160 _ _ rfl bR Tryz.underlying160 rfl Tryz.remSz) rfl ?_
  exact ⟨P2, F2, HG4.out.var HR4.out mR, HN4.out.var HR4.out mR, _, _, _, _, _, _, rfl⟩
set_option maxRecDepth 100000 in
theorem remSettle0_any (hL : Env F ad w) (hP : ∀ k, P k → F k) (h : PgR F w P c s G l) (gen id : Nat) (hgv : (spGive l (id : Int)).2 = none) (ea : Option Addr) (ec : Nat) (vk vi : Value) :
    Calls Tryz.prog 91 #[pgV c s gen, .int .i64 (id : Int), .agg #[.bool true, .slice ea 0 ec, vk, vi]] w (PgDone F P ad w c s (G.drop id) (spGive l (id : Int)).1 (fun _ _ e => e = .returned (.tuple #[.int .i64 0, .nilIface]))) := by
  have m0 : Ext w ((w.alloc (.cells #[.pointer (some ⟨c, 0, none⟩), .pointer (some ⟨s, 0, none⟩), .int .u64 (gen : Int)] 44)).alloc (.cells #[.bool true, .slice ea 0 ec, vk, vi] 26)) := ((Mods.refl _ w).alloc _).alloc _
  have HN0 := Lib.hid (Nxt.ext hL hP m0)
  have HGN := gone_any HN0.out.env HN0.out.sub (h.at m0) gen id
  rw [hgv] at HGN
  unfold pgV at HGN ⊢
  have HGN := Lib.hid HGN
  clear hL hP h m0 hgv
  go_enter Tryz.func91, Tryz.ntmps91
  go_wp2_with fail
  refine HGN.out.mono ?_
  rintro e w1 ⟨P1, F1, hG1, hN1, ev, rfl, hev⟩
  cases hev
  have HG1 := Lib.hid hG1
  have HN1 := Lib.hid (HN0.out.trans hN1)
  clear hG1 hN1
  go_wp2_with fail
  go_ret2
  exact ⟨P1, F1, HG1.out, HN1.out, rfl⟩
end
end Go.Proofs.YtffhiabonigapaaGreatDoor
namespace Go.Proofs.YtffhiabonigapaaGreatDoor
open Go.RowKit
attribute [local go_sem ↓] Go.wp_at_zero Go.wp_at_succ
section
variable {P P' F F' H : Nat → Prop} {ad : Nat → Addr} {w w' : World} {c s : Nat} {G : GA} {l : List Nat}
set_option maxRecDepth 100000 in
set_option maxHeartbeats 1000000 in
theorem del1_any (hL : Env F ad w) (hP : ∀ k, P k → F k) (h : PgR F w P c s G l) (gen id : Nat) (hid : 0 < id) (key v : ByteArray) (hky : keyB key = true) (hk : G.knows (id : Int)) (hld : G.load (id : Int) = .inl (leaf1 key v)) (hgv : (spGive l (id : Int)).2 = none) :
    Calls Tryz.prog 51 #[pgV c s gen, .int .i64 (id : Int), .string key] w (PgDone F P ad w c s (G.drop id) (spGive l (id : Int)).1 (fun _ _ e => e = .returned (.tuple #[.int .i64 0, .bool true, .nilIface]))) := by
  obtain ⟨wa, hwa⟩ : ∃ wa, wa = w.alloc (.cells #[.pointer (some ⟨c, 0, none⟩), .pointer (some ⟨s, 0, none⟩), .int .u64 (gen : Int)] 44) := ⟨_, rfl⟩
  have hBa : Blk wa w.heap.size #[.pointer (some ⟨c, 0, none⟩), .pointer (some ⟨s, 0, none⟩), .int .u64 (gen : Int)] 44 := by rw [hwa]; exact Blk.new w _ _
  have ma : Ext w wa := by rw [hwa]; exact (Mods.refl _ w).alloc _
  obtain ⟨wb, hwb⟩ : ∃ wb, wb = wa.alloc (.cells #[.string key] 9) := ⟨_, rfl⟩
  have mb : Ext wa wb := by rw [hwb]; exact (Mods.refl _ wa).alloc _
  have hBb := hBa.ext mb
  have hK : Sl F wb 1 encS (.slice (some ⟨wa.heap.size, 0, none⟩) 1 1) [key] := by
    have hz := hL.mods ma.ext
    rw [hwb]
    exact Sl.one (Blk.new wa #[.string key] 9) (fun hf => by have := hz.lt _ hf; omega)
  have hz1 : wa.heap.size = w.heap.size + 1 := by rw [hwa]; simp
  rw [hz1] at hK
  have HC := remCheck1_any (c := c) (s := s) (w := wb) ⟨#[114, 101, 109, 111, 118, 101, 46, 68, 101, 108, 101, 116, 101]⟩ gen key hky _ hK
  have HBP : Hid (¬ P w.heap.size) := Lib.hid (fun hp => by have := h.bd _ hp; omega)
  have hne : key.toList ≠ [] := fun e => by
    have := (keyB_iff key).1 hky
    have h0 : key.size = 0 := by rw [← size_toList, ← ByteArray.toList_eq, e]; rfl
    omega
  have hne3 : key.toList.isEmpty = false := by
    cases h : key.toList with
    | nil => exact absurd h hne
    | cons _ _ => rfl
  have HN := Lib.hid (Nxt.ext hL hP (ma.trans mb))
  have HG := Lib.hid (h.at (ma.trans mb))
  have HLD := Lib.hid hld
  have HWB := Lib.hid hwb
  have HWA := Lib.hid hwa
  have HBB := Lib.hid hBb
  have a0 := hBa.cell (o := 0) rfl
  have a1 := hBa.cell (o := 1) rfl
  have a2 := hBa.cell (o := 2) rfl
  unfold pgV at HC ⊢
  have HC := Lib.hid HC
  clear hL hP h hwa hwb hK ma mb hBa hBb hne hld
  go_enter Tryz.func51, Tryz.ntmps51
  go_wp2_with fail
  rw [← HWA.out, ← HWB.out]
  refine HC.out.mono ?_
  rintro e w1 ⟨rfl, hm1⟩
  have hN1 := HN.out.trans (Nxt.ext HN.out.env HN.out.sub hm1)
  have hG1 := HG.out.at hm1
  have HTK := take1_any hN1.env hN1.sub hG1 gen id key v hk HLD.out
  unfold pgV at HTK
  have HTK := Lib.hid HTK
  have hB1 := HBB.out.ext hm1
  have b0 := hB1.cell (o := 0) rfl
  have b1 := hB1.cell (o := 1) rfl
  have b2 := hB1.cell (o := 2) rfl
  have HB1 := Lib.hid hB1
  have HN1 := Lib.hid hN1
  have i1 : ¬ (id : Int) = 0 := by omega
  clear hm1 hB1 hG1 hN1 a0 a1 a2
  go_wp2_with fail
  refine HTK.out.mono ?_
  rintro e w2 ⟨P2, F2, hG2, hN2, ea, ec, ka, kc, ia, ic, rfl⟩
  obtain ⟨w3, hw3⟩ : ∃ w3, w3 = w2.alloc (.cells #[.bool true, .slice ea 0 ec, .slice ka 0 kc, .slice ia 0 ic, .bool true] 160) := ⟨_, rfl⟩
  have m3 : Ext w2 w3 := by rw [hw3]; exact (Mods.refl _ w2).alloc _
  have hB3 := (hN2.blk HB1.out HBP.out).ext m3
  have b0 := hB3.cell (o := 0) rfl
  have b1 := hB3.cell (o := 1) rfl
  have b2 := hB3.cell (o := 2) rfl
  have hN3 := (HN1.out.trans hN2).trans (Nxt.ext hN2.env hN2.sub m3)
  have hG3 := hG2.at m3
  have HST := remSettle0_any hN3.env hN3.sub hG3 gen id hgv ea ec (.slice ka 0 kc) (.slice ia 0 ic)
  unfold pgV at HST
  have HST := Lib.hid HST
  have HN3 := Lib.hid hN3
  clear hG2 hN2 hG3 hN3 hB3 m3
  subst hw3
  go_wp2_with fail
  refine HST.out.mono ?_
  rintro e w4 ⟨P4, F4, hG4, hN4, rfl⟩
  have HN4 := Lib.hid (HN3.out.trans hN4)
  have HG4 := Lib.hid hG4
  clear hG4 hN4
  go_wp2_with fail
  refine bodyPost_ret (v := .tuple #[.int .i64 0, .bool true, .nilIface]) (by simp [results, Tryz.results51, go_sem]) rfl ?_
  exact ⟨P4, F4, HG4.out, HN4.out, rfl⟩
end
theorem give14 : (spGive (downL (G0 16) (spNew 16) 0 (leaf1 ⟨#[97]⟩ ⟨#[120]⟩)) ((2 : Nat) : Int)).2 = none ∧ spCount (spGive (downL (G0 16) (spNew 16) 0 (leaf1 ⟨#[97]⟩ ⟨#[120]⟩)) ((2 : Nat) : Int)).1 = 14 := by
  have hd := down0_some (G := G0 16) (key := ⟨#[97]⟩) (v := ⟨#[120]⟩) (by decide) (by decide) (Nat.le_refl 256) (free_new 16 (by omega))
  have h1 : downOk (leaf1 ⟨#[97]⟩ ⟨#[120]⟩) (G0 16).size := downI_ok hd
  unfold downL
  rw [if_pos h1]
  unfold placeL
  decide
set_option maxRecDepth 100000 in
set_option maxHeartbeats 2000000 in
theorem awake14_any {ad : Nat → Addr} {w : World} (hL : Env NoB ad w) : Calls Tryz.prog 29 #[] w fun e w' => e = .returned (.bool true) ∧ Ext w w' := by
  have HL := Lib.hid hL
  clear hL
  go_enter Tryz.func29, Tryz.ntmps29
  go_wp2_with fail
  refine (pager14_any HL.out 16 (by omega) (by omega)).mono ?_
  rintro e w1 ⟨c, s, P, F, rfl, hG, hN⟩
  have hS := LG.startZ (gen := 5) hG hN 5 rfl
  have t0 := hS.c0
  have t1 := hS.c1
  have t2 : _ = some (Value.int .u64 5) := hS.c2
  have HPU := Lib.hid (put0_any hS.env hS.sub hS.pg 5 (by omega) ⟨#[97]⟩ ⟨#[120]⟩ (by decide) (by decide) (low_new 16 (by omega)) (by rw [len_new 16 (by omega)]; exact Nat.le_refl 16) (by show 0 + 10 ≤ 1000000; omega) 2 (free_new 16 (by omega)))
  have HS := Lib.hid hS
  rw [pgV5] at HPU ⊢
  clear hG hN hS
  go_wp2_with fail
  refine HPU.out.mono ?_
  rintro e w2 ⟨P2, F2, hG2, hN2, rfl⟩
  have hS2 := HS.out.step hN2 hG2
  have t0 := hS2.c0
  have t1 := hS2.c1
  have t2 : _ = some (Value.int .u64 5) := hS2.c2
  have hnd := GA.node_load (down_node (G := G0 16) (gen := 5) (down0_some (G := G0 16) (l := spNew 16) (key := ⟨#[97]⟩) (v := ⟨#[120]⟩) (by decide) (by decide) (Nat.le_refl 256) (free_new 16 (by omega))) (by show 2 < 16; omega))
  have HD := del1_any hS2.env hS2.sub hS2.pg 5 2 (by omega) ⟨#[97]⟩ ⟨#[120]⟩ (by decide) hnd.1 hnd.2 give14.1
  clear hnd
  have HS2 := Lib.hid hS2
  rw [pgV5] at HD
  have HD := Lib.hid HD
  clear hG2 hN2 hS2
  go_wp2_with fail
  refine HD.out.mono ?_
  rintro e w3 hd
  obtain ⟨P3, F3, hS3, rfl⟩ := HS2.out.done hd
  have HX := Lib.hid hS3.ext0
  have HFR := pgFree hS3.pg
  rw [give14.2] at HFR
  have HFR := Lib.hid HFR
  have t1 := hS3.c1
  clear hd hS3 t0 t2
  go_wp2_with fail
  refine HFR.out.mono ?_
  rintro e w4 ⟨rfl, rfl⟩
  go_wp2_with fail
  go_ret
  exact ⟨rfl, HX.out⟩
end Go.Proofs.YtffhiabonigapaaGreatDoor
namespace Go.Proofs.YtffhiabonigapaaGreatDoor
open Go.RowKit
attribute [local go_sem ↓] Go.wp_at_zero Go.wp_at_succ
/-- is a node light? -/
def lightN (n : NodeA) (z : Int) : Bool := (n.leaf && decide ((n.entries.length : Int) = 0)) || (!n.leaf && decide ((n.kids.length : Int) < 2)) || decide (3 * weightN n < z - 24)
def lightR (n : NodeA) (z : Int) : Bool := (n.leaf && decide ((n.entries.length : Int) = 0)) || decide (3 * weightN n < z - 24)
theorem light_same {n : NodeA} (h : rightN n = true) (z : Int) : lightN n z = lightR n z := by
  unfold lightN lightR
  cases hl : n.leaf with
  | true => simp
  | false =>
    have := (right_256 hl h).1
    have h2 : decide ((n.kids.length : Int) < 2) = false := decide_eq_false (by omega)
    simp [h2]
theorem few_sumE (es : List EntryA) : (∀ x ∈ es, rightE x = true) → sumE es ≤ 100 * es.length := by
  induction es with
  | nil => intro _; simp [sumE]
  | cons x es ih =>
    intro h
    have h3 := ih (fun y hy => h y (List.mem_cons_of_mem _ hy))
    have h4 := h x List.mem_cons_self
    unfold rightE at h4
    simp only [Bool.and_eq_true] at h4
    have h5 := (keyB_iff x.key).1 h4.1
    have : weightE x ≤ 100 := by
      unfold weightE
      split
      · rename_i hz
        rw [if_pos hz] at h4
        simp only [Bool.and_eq_true, decide_eq_true_eq] at h4
        omega
      · omega
    simp only [sumE, List.length_cons]
    omega
theorem few_sumK (ks : List ByteArray) : (∀ x ∈ ks, keyB x = true) → sumK ks ≤ 100 * ks.length := by
  induction ks with
  | nil => intro _; simp [sumK]
  | cons x ks ih =>
    intro h
    have h3 := ih (fun y hy => h y (List.mem_cons_of_mem _ hy))
    have h5 := (keyB_iff x).1 (h x List.mem_cons_self)
    simp only [sumK, List.length_cons]
    omega
theorem few_bytes' {n : NodeA} (h1 : n.entries.length + n.kids.length ≤ 100) (hr : rightN n = true) : (bytesN n).length ≤ 100000 := by
  have hw := weight_len (form_right hr)
  have e := few_sumE n.entries
  have k := few_sumK n.keys
  unfold weightN at hw
  cases hl : n.leaf with
  | true =>
    have hf := form_right hr
    unfold formN at hf
    rw [if_pos hl] at hf
    have := e (fun x hx => by
      obtain ⟨i, hi, hxe⟩ := List.getElem_of_mem hx
      exact right_entry hl hr (k := i) (by rw [← hxe]; exact List.getElem?_eq_getElem hi))
    rw [hl, hf.1] at hw
    simp only [sumK, if_true] at hw
    omega
  | false =>
    have hf := form_right hr
    unfold formN at hf
    rw [if_neg (by rw [hl]; simp)] at hf
    have := k (rightN_keys' hr hl)
    rw [hl, hf.1] at hw
    simp only [sumE, Bool.false_eq_true, if_false] at hw
    omega
section
variable {P P' F F' H : Nat → Prop} {ad : Nat → Addr} {w w' : World} {c s : Nat} {G : GA} {l : List Nat}
set_option maxRecDepth 100000 in
theorem light_any (n : NodeA) (ve vk vi : Value) (hve : Sl F w 4 encE ve n.entries) (hvk : Sl F w 1 encS vk n.keys) (hvi : Sl F w 1 encI vi n.kids) (hb : weightN n ≤ 1000000000) (z : Int) (hz : 0 ≤ z) (hz2 : z ≤ 100000) (lf : Bool) (hlf : n.leaf = lf) (r : Bool) (hr : lightN n z = r) :
    Calls Tryz.prog 30 #[.agg #[.bool lf, ve, vk, vi], .int .i64 z] w fun e w' => e = .returned (.bool r) ∧ Ext w w' := by
  have m0 : Ext w (w.alloc (.cells #[.bool lf, ve, vk, vi] 26)) := (Mods.refl _ w).alloc _
  have HW := weight_any (vi := vi) n ve vk _ (hve.ext m0) (hvk.ext m0) (by omega)
  rw [hlf] at HW
  have hw2 := weight_pos n
  obtain ⟨W, hW⟩ : ∃ W, W = weightN n := ⟨_, rfl⟩
  obtain ⟨ea, ec, rfl, e1, e2, e3, _⟩ := hve
  obtain ⟨ka, kc, rfl, _, _, _, _⟩ := hvk
  obtain ⟨ia, ic, rfl, i1, i2, i3, _⟩ := hvi
  unfold maxLen at e2 i2
  rw [← hW] at hb HW hw2
  have HR : Hid (r = ((lf && decide ((n.entries.length : Int) = 0)) || (!lf && decide ((n.kids.length : Int) < 2)) || decide (3 * W < z - 24))) := Lib.hid (by rw [← hr]; unfold lightN; rw [hlf, hW])
  obtain ⟨ne, hne⟩ : ∃ ne, ne = n.entries.length := ⟨_, rfl⟩
  obtain ⟨ni, hni⟩ : ∃ ni, ni = n.kids.length := ⟨_, rfl⟩
  rw [← hne] at HR HW m0 e1 e3 ⊢
  rw [← hni] at HR HW m0 i1 i3 ⊢
  have HM0 := Lib.hid m0
  have HW := Lib.hid HW
  have u1 : IntKind.i64.wrap (3 * W) = 3 * W := by rw [IntWalk.i64_in _ (by omega)]
  have u2 : IntKind.i64.wrap (z - 24) = z - 24 := by rw [IntWalk.i64_in _ (by omega)]
  clear hlf hr hW hne hni m0
  cases lf with
  | true =>
    by_cases h0 : (ne : Int) = 0
    · go_enter Tryz.func30, Tryz.ntmps30
      go_wp2_with fail
      go_ret
      exact ⟨by rw [HR.out, decide_eq_true h0]; rfl, HM0.out⟩
    · go_enter Tryz.func30, Tryz.ntmps30
      go_wp2_with fail
      refine HW.out.mono ?_
      rintro e w1 ⟨rfl, hm⟩
      have HM := Lib.hid (HM0.out.trans hm)
      clear hm
      go_wp2_with fail
      go_ret
      exact ⟨by rw [HR.out, decide_eq_false h0]; rfl, HM.out⟩
  | false =>
    by_cases h0 : (ni : Int) < 2
    · go_enter Tryz.func30, Tryz.ntmps30
      go_wp2_with fail
      go_ret
      exact ⟨by rw [HR.out, decide_eq_true h0]; rfl, HM0.out⟩
    · go_enter Tryz.func30, Tryz.ntmps30
      go_wp2_with fail
      refine HW.out.mono ?_
      rintro e w1 ⟨rfl, hm⟩
      have HM := Lib.hid (HM0.out.trans hm)
      clear hm
      go_wp2_with fail
      go_ret
      exact ⟨by rw [HR.out, decide_eq_false (show ¬ (ni : Int) < 2 by omega)]; rfl, HM.out⟩
set_option maxRecDepth 100000 in
theorem light14_any (n : NodeA) (ve vk vi : Value) (hve : Sl F w 4 encE ve n.entries) (hvk : Sl F w 1 encS vk n.keys) (hvi : Sl F w 1 encI vi n.kids) (hn : rightN n = true) (hb : (bytesN n).length ≤ 100000) (z : Int) (hz : 0 ≤ z) (hz2 : z ≤ 100000) (lf : Bool) (hlf : n.leaf = lf) (r : Bool) (hr : lightR n z = r) :
    Calls Tryz.prog 31 #[.agg #[.bool lf, ve, vk, vi], .int .i64 z] w fun e w' => e = .returned (.bool r) ∧ Ext w w' := by
  have m0 : Ext w (w.alloc (.cells #[.bool lf, ve, vk, vi] 26)) := (Mods.refl _ w).alloc _
  have HW := weight13_any n ve vk vi (hve.ext m0) (hvk.ext m0) (hvi.ext m0) (okB_right hn) hb lf hlf
  have hwl := weight_len (form_right hn)
  obtain ⟨W, hW⟩ : ∃ W, W = (bytesN n).length := ⟨_, rfl⟩
  obtain ⟨ea, ec, rfl, e1, e2, e3, _⟩ := hve
  obtain ⟨ka, kc, rfl, _, _, _, _⟩ := hvk
  obtain ⟨ia, ic, rfl, i1, i2, i3, _⟩ := hvi
  unfold maxLen at e2
  rw [← hW] at hb HW hwl
  have HR : Hid (r = ((lf && decide ((n.entries.length : Int) = 0)) || decide (3 * (W : Int) < z - 24))) := Lib.hid (by rw [← hr]; unfold lightR; rw [hlf, hwl])
  obtain ⟨ne, hne⟩ : ∃ ne, ne = n.entries.length := ⟨_, rfl⟩
  rw [← hne] at HR HW m0 e1 e3 ⊢
  have HM0 := Lib.hid m0
  have HW := Lib.hid HW
  have u1 : IntKind.i64.wrap (3 * (W : Int)) = 3 * (W : Int) := by rw [IntWalk.i64_in _ (by omega)]
  have u2 : IntKind.i64.wrap (z - 24) = z - 24 := by rw [IntWalk.i64_in _ (by omega)]
  clear hlf hr hW hne m0 hwl hn
  cases lf with
  | true =>
    by_cases h0 : (ne : Int) = 0
    · go_enter Tryz.func31, Tryz.ntmps31
      go_wp2_with fail
      go_ret
      exact ⟨by rw [HR.out, decide_eq_true h0]; rfl, HM0.out⟩
    · go_enter Tryz.func31, Tryz.ntmps31
      go_wp2_with fail
      refine HW.out.mono ?_
      rintro e w1 ⟨rfl, hm⟩
      have HM := Lib.hid (HM0.out.trans hm)
      clear hm
      go_wp2_with fail
      go_ret
      exact ⟨by rw [HR.out, decide_eq_false h0]; rfl, HM.out⟩
  | false =>
    go_enter Tryz.func31, Tryz.ntmps31
    go_wp2_with fail
    refine HW.out.mono ?_
    rintro e w1 ⟨rfl, hm⟩
    have HM := Lib.hid (HM0.out.trans hm)
    clear hm
    go_wp2_with fail
    go_ret
    exact ⟨by rw [HR.out]; rfl, HM.out⟩
end
set_option maxRecDepth 100000 in
set_option maxHeartbeats 4000000 in
theorem RemoveLights_any {ad : Nat → Addr} {w : World} (hL : Env NoB ad w) (n : NodeA) (ve vk vi : Value) (hve : Sl NoB w 4 encE ve n.entries) (hvk : Sl NoB w 1 encS vk n.keys) (hvi : Sl NoB w 1 encI vi n.kids) (z : Int) (hz : -9223372036854775808 ≤ z) (hz2 : z ≤ 9223372036854775807) :
    Calls Tryz.prog 6 #[.agg #[.bool n.leaf, ve, vk, vi], .int .i64 z] w fun e w' => e = .returned (.bool true) ∧ Ext w w' := by
  obtain ⟨lf, hlf⟩ : ∃ lf, n.leaf = lf := ⟨_, rfl⟩
  rw [hlf]
  have HVE := Lib.hid hve
  have HVK := Lib.hid hvk
  have HVI := Lib.hid hvi
  obtain ⟨ea, ec, rfl, he1, he2, he3, _⟩ := hve
  obtain ⟨ka, kc, rfl, _, _, _, _⟩ := hvk
  obtain ⟨ia, ic, rfl, hi1, hi2, hi3, _⟩ := hvi
  have m0 : Ext w (w.alloc (.cells #[.bool lf, .slice ea n.entries.length ec, .slice ka n.keys.length kc, .slice ia n.kids.length ic] 26)) := (Mods.refl _ w).alloc _
  have HB0 := Lib.hid (Blk.new w #[.bool lf, .slice ea n.entries.length ec, .slice ka n.keys.length kc, .slice ia n.kids.length ic] 26)
  have HAW := Lib.hid (fun W (m : Ext w W) => awake14_any (hL.mods m.ext))
  have M0 := Lib.hid m0
  have HLF := Lib.hid hlf
  have u1 : IntKind.i64.wrap ((n.entries.length : Int) + (n.kids.length : Int)) = (n.entries.length : Int) + (n.kids.length : Int) := by rw [IntWalk.i64_in _ (by omega)]
  obtain ⟨rb, hrb⟩ : ∃ rb, rightN n = rb := ⟨_, rfl⟩
  have HRT := right07_t n _ _ _ (HVE.out.ext m0) (HVK.out.ext m0) (HVI.out.ext m0) rb hrb
  rw [hlf] at HRT
  have HRT := Lib.hid HRT
  have HRB := Lib.hid hrb
  clear hL hlf hrb m0
  by_cases hbig : (100 : Int) < (n.entries.length : Int) + (n.kids.length : Int)
  · go_enter Tryz.func6, Tryz.ntmps6
    go_wp2_with fail
    refine (HAW.out _ M0.out).mono ?_
    rintro e w1 ⟨rfl, hm⟩
    have HM := Lib.hid (M0.out.trans hm)
    clear hm
    go_wp2_with fail
    go_ret
    exact ⟨rfl, HM.out⟩
  · by_cases hout : rb = true ∧ 256 ≤ z ∧ z ≤ 1024
    · obtain ⟨rfl, z1, z2⟩ := hout
      have hR := HRB.out
      have hby := few_bytes' (n := n) (by omega) hR
      have hwl := weight_len (form_right hR)
      obtain ⟨r, hr⟩ : ∃ r, lightN n z = r := ⟨_, rfl⟩
      have hr2 : lightR n z = r := by rw [← light_same hR, hr]
      have HLT := fun W (m : Ext w W) => light_any (w := W) n _ _ _ (HVE.out.ext m) (HVK.out.ext m) (HVI.out.ext m) (by omega) z (by omega) (by omega) lf HLF.out r hr
      have HLT := Lib.hid HLT
      have HL14 := fun W (m : Ext w W) => light14_any (w := W) n _ _ _ (HVE.out.ext m) (HVK.out.ext m) (HVI.out.ext m) hR hby z (by omega) (by omega) lf HLF.out r hr2
      have HL14 := Lib.hid HL14
      have HLZ := Lib.hid (fun W (_ : Ext w W) => light_any (F := NoB) (w := W) leaf0 (.slice none 0 0) (.slice none 0 0) (.slice none 0 0) (Sl.nil _ _ _ _) (Sl.nil _ _ _ _) (Sl.nil _ _ _ _) (by decide) z (by omega) (by omega) true rfl true (by unfold lightN leaf0; simp))
      have n1 : ¬ z < 256 := by omega
      have n2 : ¬ 1024 < z := by omega
      clear hR hby hwl hr hr2
      go_enter Tryz.func6, Tryz.ntmps6
      go_wp2_with fail
      refine HRT.out.mono ?_
      rintro e w1 ⟨rfl, hm⟩
      have xm := M0.out.trans hm
      have hB := HB0.out.ext hm
      have p0 := hB.cell (o := 0) rfl
      have p1 := hB.cell (o := 1) rfl
      have p2 := hB.cell (o := 2) rfl
      have p3 := hB.cell (o := 3) rfl
      have HX1 := Lib.hid xm
      clear hm hB xm
      go_wp2_with fail
      have xm := (Mods.refl (fun _ => False) w1).drew
      go_region_held3 (fun w' => w'.cell? ⟨w.heap.size, 0, none⟩ = some (.bool lf) ∧ w'.cell? ⟨w.heap.size, 1, none⟩ = some (.slice ea n.entries.length ec) ∧ w'.cell? ⟨w.heap.size, 2, none⟩ = some (.slice ka n.keys.length kc) ∧ w'.cell? ⟨w.heap.size, 3, none⟩ = some (.slice ia n.kids.length ic))
        (first | (with_reducible exact ⟨p0, p1, p2, p3⟩) | go_keep)
        (first
          | (go_at_call 30; (first | with_reducible refine (HLT.out _ (HX1.out.trans xm)).mono ?_ | with_reducible refine (HLZ.out _ (HX1.out.trans xm)).mono ?_); rintro e wz ⟨rfl, hmz⟩; have p0 := cellE hmz p0; have p1 := cellE hmz p1; have p2 := cellE hmz p2; have p3 := cellE hmz p3; have xm := xm.trans hmz)
          | (go_at_call 31; (with_reducible refine (HL14.out _ (HX1.out.trans xm)).mono ?_); rintro e wz ⟨rfl, hmz⟩; have p0 := cellE hmz p0; have p1 := cellE hmz p1; have p2 := cellE hmz p2; have p3 := cellE hmz p3; have xm := xm.trans hmz)
          | (go_at_call 29; (with_reducible refine (HAW.out _ (HX1.out.trans xm)).mono ?_); rintro e wz ⟨rfl, hmz⟩; have p0 := cellE hmz p0; have p1 := cellE hmz p1; have p2 := cellE hmz p2; have p3 := cellE hmz p3; have xm := xm.trans hmz)
          | fail)
      all_goals
        go_wp2_with fail
        go_ret
        exact ⟨rfl, HX1.out.trans xm⟩
    · cases rb with
      | false =>
        go_enter Tryz.func6, Tryz.ntmps6
        go_wp2_with fail
        refine HRT.out.mono ?_
        rintro e w1 ⟨rfl, hm⟩
        have HM := Lib.hid (M0.out.trans hm)
        clear hm
        go_wp2_with fail
        refine (HAW.out _ HM.out).mono ?_
        rintro e w2 ⟨rfl, hm⟩
        have HM := Lib.hid (HM.out.trans hm)
        clear hm
        go_wp2_with fail
        go_ret
        exact ⟨rfl, HM.out⟩
      | true =>
        by_cases z1 : z < 256
        all_goals
          first
            | have z2 : (1024 : Int) < z := by
                have : ¬ (256 ≤ z ∧ z ≤ 1024) := fun h => hout ⟨rfl, h⟩
                omega
            | skip
          clear hout
          go_enter Tryz.func6, Tryz.ntmps6
          go_wp2_with fail
          refine HRT.out.mono ?_
          rintro e w1 ⟨rfl, hm⟩
          have HM := Lib.hid (M0.out.trans hm)
          clear hm
          go_wp2_with fail
          refine (HAW.out _ HM.out).mono ?_
          rintro e w2 ⟨rfl, hm⟩
          have HM := Lib.hid (HM.out.trans hm)
          clear hm
          go_wp2_with fail
          go_ret
          exact ⟨rfl, HM.out⟩
end Go.Proofs.YtffhiabonigapaaGreatDoor
