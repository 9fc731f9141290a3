/- ChainBack, walked. -/
import Derived.Test.YtidjkcfjocppmaaDoorKLawC
import Derived.IntWalk
import Derived.Deep.CutBlock
import Derived.Deep.DeepCutAuto
namespace Go.Proofs.YtidjkcfjocppmaaDoor
open Go.RowKit
attribute [local go_sem ↓] Go.wp_at_zero Go.wp_at_succ
section
variable {ad : Nat → Addr} {w0 w w' : World} {B c s : Nat} {P P' F F' : Nat → Prop} {G G' : GA} {l l' : List Nat}
/-- a pager's step that answers nothing, in a law. -/
def LsDone (ad : Nat → Addr) (w0 : World) (B c s : Nat) (P F : Nat → Prop) (w : World) (G' : GA) (l : List Nat) (v : Value) (e : Ending) (w' : World) : Prop :=
  ∃ P' F', e = .returned v ∧ LS ad w0 w' B c s P' F' G' l ∧ Nxt P P' F F' ad w w'
theorem lsFlush (h : LS ad w0 w B c s P F G l) : Calls Tryd.prog 20 #[.pointer (some ⟨c, 0, none⟩)] w (LsDone ad w0 B c s P F w G.flushC l .nilIface) := by
  refine (pgFlush h.env h.sub h.pg).mono ?_
  rintro e w' ⟨P', F', hG, hN, rfl⟩
  exact ⟨P', F', rfl, h.step hN hG, hN⟩
theorem lsForget (h : LS ad w0 w B c s P F G l) : Calls Tryd.prog 21 #[.pointer (some ⟨c, 0, none⟩)] w (LsDone ad w0 B c s P F w G.forget l (.tuple #[])) := by
  refine (pgForget h.env h.sub h.pg).mono ?_
  rintro e w' ⟨P', F', hG, hN, rfl⟩
  exact ⟨P', F', rfl, h.step hN hG, hN⟩
theorem LS.oldP (h : LS ad w0 w B c s P F G l) {b : Nat} (hb : b < w0.heap.size) : ¬ P b := fun hp => h.nx.stp.old b hb hp
theorem LS.cellOld (h : LS ad w0 w B c s P F G l) {b o : Nat} {v : Value} (hc : w0.cell? ⟨b, o, none⟩ = some v) : w.cell? ⟨b, o, none⟩ = some v := (h.ext0.cell (cell_lt hc) (fun f => f)).trans hc
/-- Write, in a law, with its step. -/
def LsWroteN (ad : Nat → Addr) (w0 : World) (B c s b k : Nat) (P F : Nat → Prop) (w : World) (G : GA) (v : ByteArray) (e : Ending) (w' : World) : Prop :=
  (∃ P' F', k + 2 + ndK v.size ≤ b ∧ e = .returned (.tuple #[.int .i64 ((k + 2 : Nat) : Int), .nilIface]) ∧ LS ad w0 w' B c s P' F' (chPuts 7 v.data.toList 228 (idsK k (ndK v.size)) (ndK v.size) G) (spK b (k + ndK v.size)) ∧ Nxt P P' F F' ad w w') ∨
  (∃ P' F' a f, b < k + 2 + ndK v.size ∧ e = .returned (.tuple #[.int .i64 0, faultV f]) ∧ LS ad w0 w' B c s P' F' (giveG G a) (spK b k) ∧ (∀ id ∈ a, k + 2 ≤ id) ∧ ErrC F' ad w' (faultV f) [-1, -1] 3 ∧ Nxt P P' F F' ad w w')
theorem LsWroteN.form {b k : Nat} {v : ByteArray} {e : Ending} (h : LsWroteN ad w0 B c s b k P F w G v e w') : ∃ iv ev, e = .returned (.tuple #[iv, ev]) := by
  rcases h with ⟨_, _, _, h, _⟩ | ⟨_, _, _, _, _, h, _⟩
  · exact ⟨_, _, h⟩
  · exact ⟨_, _, h⟩
theorem LsWroteN.cells {b k : Nat} {v : ByteArray} {e : Ending} (h : LsWroteN ad w0 B c s b k P F w G v e w') : (w'.cell? ⟨B, 0, none⟩ = some (.pointer (some ⟨c, 0, none⟩)) ∧ w'.cell? ⟨B, 1, none⟩ = some (.pointer (some ⟨s, 0, none⟩)) ∧ w'.cell? ⟨B, 2, none⟩ = some (.int .u64 7)) ∧
    ∀ (q o : Nat) (u : Value), w0.cell? ⟨q, o, none⟩ = some u → w'.cell? ⟨q, o, none⟩ = some u := by
  rcases h with ⟨_, _, _, _, h, _⟩ | ⟨_, _, _, _, _, _, h, _⟩
  · exact ⟨⟨h.c0, h.c1, h.c2⟩, fun q o u hc => h.cellOld hc⟩
  · exact ⟨⟨h.c0, h.c1, h.c2⟩, fun q o u hc => h.cellOld hc⟩
theorem LsWroteN.okT {b k n : Nat} {seed : UInt8} {iv ev : Value} (h : LsWroteN ad w0 B c s b k P F w G (tx n seed) (.returned (.tuple #[iv, ev])) w') (hk : k + 2 + ndK n ≤ b) :
    ∃ id : Nat, id = k + 2 ∧ iv = .int .i64 (id : Int) ∧ ev = .nilIface ∧ ∃ P' F' G', LS ad w0 w' B c s P' F' G' (spK b (k + ndK n)) ∧ PutG G G' (textL n seed) k (ndK n) ∧ Nxt P P' F F' ad w w' := by
  rcases h with ⟨P', F', _, h, h4, h5⟩ | ⟨_, _, _, _, h, _⟩
  · simp only [Ending.returned.injEq, Value.tuple.injEq, Array.mk.injEq, List.cons.injEq, and_true] at h
    rw [tx_size] at h4
    exact ⟨k + 2, rfl, h.1, h.2, P', F', _, h4, putG G (textL n seed) k (ndK n), h5⟩
  · rw [tx_size] at h; omega
theorem LsWroteN.full {b k : Nat} {v : ByteArray} {iv ev : Value} (h : LsWroteN ad w0 B c s b k P F w G v (.returned (.tuple #[iv, ev])) w') (hk : b < k + 2 + ndK v.size) :
    iv = .int .i64 0 ∧ ∃ P' F' a f, ev = faultV f ∧ LS ad w0 w' B c s P' F' (giveG G a) (spK b k) ∧ (∀ id ∈ a, k + 2 ≤ id) ∧ ErrC F' ad w' (faultV f) [-1, -1] 3 ∧ Nxt P P' F F' ad w w' := by
  rcases h with ⟨P', F', h, _⟩ | ⟨P', F', a, f, _, h, h1, h2, h3, h5⟩
  · omega
  · simp only [Ending.returned.injEq, Value.tuple.injEq, Array.mk.injEq, List.cons.injEq, and_true] at h
    exact ⟨h.1, P', F', a, f, h.2, h1, h2, h3, h5⟩
theorem lsWriteN {b k : Nat} (h : LS ad w0 w B c s P F G (spK b k)) (hb : G.blocks = b) (hs : G.size = 256) (hk : k + 2 ≤ b) (hco : G.cost + 100 ≤ 1000000) (v : ByteArray) (h25 : 25 ≤ v.size) (h4096 : v.size ≤ 4096) :
    Calls Tryd.prog 14 #[pgV c s 7, .string v] w (LsWroteN ad w0 B c s b k P F w G v) := by
  refine (chWrite_any h.env h.sub h.pg 7 (by decide) v h25 h4096 (spK_ok b k hk) (by rw [spK_len b k hk, hb]) hco).mono ?_
  rintro e w' ⟨P', F', G', l', hG, hN, hr⟩
  have hne : (needN (v.size : Int) (G.size : Int)).toNat = ndK v.size := by
    rw [hs, show ((256 : Nat) : Int) = 256 from rfl, ndK_need _ (by omega)]; rfl
  rw [hne, takeA_K _ b k hk] at hr
  rcases hr with ⟨ids, h1, h2, h3, rfl, rfl⟩ | ⟨a, f, h1, rfl, rfl, h4, rfl, h6⟩
  · by_cases hc : k + 2 + ndK v.size ≤ b
    · rw [if_pos hc] at h1
      injection h1 with h1
      injection h1 with h5 h6
      subst h5 h6
      refine .inl ⟨P', F', hc, ?_, ?_, hN⟩
      · rw [idsK_at, if_pos (by unfold ndK; omega), Nat.zero_add]
      · rw [hs, idsK_len] at hG
        exact h.step hN hG
    · rw [if_neg hc] at h1
      cases h1
  · by_cases hc : k + 2 + ndK v.size ≤ b
    · rw [if_pos hc] at h1
      cases h1
    · refine .inr ⟨P', F', a, f, by omega, rfl, h.step hN hG, fun id hid => ?_, h6, hN⟩
      have := h4 id hid
      rw [spK_get b k id hk] at this
      by_cases q : id < 2
      · rw [if_pos q] at this; simp at this
      · rw [if_neg q] at this
        by_cases q2 : id < k + 2
        · rw [if_pos q2] at this; simp at this
        · omega
/-- Read, in a law, of what is known, with its step. -/
theorem lsReadN {k : Nat} (h : LS ad w0 w B c s P F G l) (hs : G.size = 256) (hb : G.blocks ≤ 256) (v : ByteArray) (hH : Holds G 7 v.data.toList k (ndK v.size)) (hk : k + 2 + ndK v.size ≤ G.blocks) (h25 : 25 ≤ v.size) (h4096 : v.size ≤ 4096) (id n : Nat) (hid : id = k + 2) (hn : n = v.size) :
    Calls Tryd.prog 18 #[pgV c s 7, .int .i64 (id : Int), .int .i64 (n : Int)] w (LsDone ad w0 B c s P F w G l (.tuple #[.string v, .nilIface])) := by
  subst hn hid
  have hl : v.data.toList.length = v.size := size_toList v
  have hf : Fit v.data.toList.length 228 (ndK v.size) := by rw [hl]; exact ndK_fit _ (by omega)
  obtain ⟨w1, w2⟩ := walk_all hf (by omega) hk hb hH
  have hz := chErr_holds hf (by omega) hk hb hH (by omega) (by omega)
  rw [hl] at w1 w2 hz
  refine (chRead_any h.env h.sub h.pg 7 ((k + 2 : Nat) : Int) (v.size : Int) (by omega) (fun _ _ => by rw [Int.toNat_natCast]; exact w2)).mono ?_
  rintro e w' ⟨P', F', hG, hN, ⟨_, rfl⟩ | ⟨er, f, he, _⟩⟩
  · refine ⟨P', F', ?_, h.step hN hG, hN⟩
    rw [Int.toNat_natCast, w1]
    simp only [List.flatMap_map]
    rw [show (List.range' 0 (ndK v.size)).flatMap (fun x => pieceB v.data.toList 228 x) = v.data.toList from pieces_all _ _ _ (by rw [hl]; exact (ndK_fit _ (by omega)).hi)]
  · rw [hz] at he; cases he
theorem LocR.at {α : Type} {e : TypeId} {enc : α → List Value} {a : Option Addr} {n cap : Nat} {x : List α} (h : LocR w0 F P w e 1 enc (.slice a n cap) x) (E : EncOk enc 1) (hl : x.length ≤ 1000000) {j : Nat} {y : α} (hy : x[j]? = some y) :
    ∃ b off, a = some ⟨b, off, none⟩ ∧ b < w.heap.size ∧ F b ∧ ¬ P b ∧ ∀ u, (enc y)[0]? = some u → w.cell? ⟨b, off + j, none⟩ = some u := by
  obtain ⟨a', cap', e1, _, _, _, hc⟩ := h.1.sl E.len (by omega)
  simp only [Value.slice.injEq] at e1
  obtain ⟨rfl, _, rfl⟩ := e1
  rcases hc with hc | ⟨b, off, rfl, hb, _, hc⟩
  · rw [hc] at hy; simp at hy
  · have hj := (List.getElem?_eq_some_iff.1 hy).1
    obtain ⟨h1, h2⟩ := h.2 b rfl
    exact ⟨b, off, rfl, hb, h1, h2, fun u hu => by have := hc j y hy 0 u hu; simpa using this⟩
theorem LS.app {α : Type} {e : TypeId} {sz : Nat} {enc : α → List Value} {v v' : Value} {x x' : List α} (h : LS ad w0 w B c s P F G l) (hr : LocR w0 F P w e sz enc v x) (ho : Own (fun _ => False) w' w0.heap.size e sz enc v' x') (m : Mods (fun k => v.ownBlock = some k) w w') {K : Nat}
    (hat : v'.ownBlock = v.ownBlock ∨ v'.ownBlock = some K) (hK : w.heap.size ≤ K) : LS ad w0 w' B c s P (plusV F v') G l ∧ LocR w0 (plusV F v') P w' e sz enc v' x' := by
  obtain ⟨n1, n2⟩ := LocR.app h.nx hr ho m hat hK
  have hB := h.box.lt
  refine ⟨⟨h.pg.app hr m hat hK, n1, h.box.mods m (fun e => h.nF (hr.2 B e).1), h.nB, fun hf => ?_⟩, n2⟩
  rcases hf with hf | hf
  · exact h.nF hf
  · rcases hat with e | e
    · exact h.nF (hr.2 B (e ▸ hf)).1
    · rw [e] at hf; injection hf with hf; omega
/-- what was written, and stands there. -/
def BackI (l : List Int) (G : GA) (kk : Nat) (offs : List Nat) : Prop :=
  ∀ j o, offs[j]? = some o → ∃ z, l[j]? = some z ∧ Holds G 7 (textL (lenI z).toNat (UInt8.ofNat j)) o (ndK (lenI z).toNat) ∧ o + ndK (lenI z).toNat ≤ kk
theorem BackI.nil (l : List Int) (G : GA) (kk : Nat) : BackI l G kk [] := fun j o h => by simp at h
theorem BackI.put {l : List Int} {G G' : GA} {kk n : Nat} {offs : List Nat} {z : Int} (h : BackI l G kk offs) (hz : l[offs.length]? = some z) (hn : n = (lenI z).toNat) (hp : PutG G G' (textL n (UInt8.ofNat offs.length)) kk (ndK n)) (hs : G.size = 256) :
    BackI l G' (kk + ndK n) (offs ++ [kk]) := fun j o ho => by
  rcases Nat.lt_or_ge j offs.length with hj | hj
  · rw [List.getElem?_append_left hj] at ho
    obtain ⟨y, h1, h2, h3⟩ := h j o ho
    exact ⟨y, h1, hp.far _ _ _ h2 h3, by omega⟩
  · rw [List.getElem?_append_right hj] at ho
    have hj0 : j - offs.length = 0 := by
      have := (List.getElem?_eq_some_iff.1 ho).1
      simp at this; omega
    have e : j = offs.length := by omega
    subst e
    rw [hj0] at ho
    simp at ho
    subst ho
    subst hn
    exact ⟨z, hz, hp.here hs, by omega⟩
theorem BackI.give {l : List Int} {G : GA} {kk : Nat} {offs : List Nat} (h : BackI l G kk offs) (a : List Nat) (ha : ∀ id ∈ a, kk + 2 ≤ id) : BackI l (giveG G a) kk offs := fun j o ho => by
  obtain ⟨y, h1, h2, h3⟩ := h j o ho
  exact ⟨y, h1, holds_give h2 a (fun id hid => by have := ha id hid; omega), h3⟩
theorem BackI.forget {l : List Int} {G : GA} {kk : Nat} {offs : List Nat} (h : BackI l G kk offs) (hs : G.size = 256) (hk : kk + 2 ≤ 256) : BackI l G.flushC.forget kk offs := fun j o ho => by
  obtain ⟨y, h1, h2, h3⟩ := h j o ho
  exact ⟨y, h1, holds_forget (nn := 228) hs (by omega) (by omega) (by omega) (by decide) h2, h3⟩
/-- what a round of ChainBack keeps. -/
structure BackS (ad : Nat → Addr) (w wr : World) (B c s : Nat) (l : List Int) (v7 : Value) (k : Nat) (P F : Nat → Prop) (G : GA) (kk : Nat) (offs : List Nat) : Prop where
  ls : LS ad w wr B c s P F G (spK 100 kk)
  row : LocR w F P wr 3 1 encN v7 (offs.map (· + 2))
  len : offs.length = k
  back : BackI l G kk offs
  k18 : kk ≤ 18 * k
  k98 : kk + 2 ≤ 100
  blocks : G.blocks = 100
  size : G.size = 256
  cost : G.cost ≤ 18 * k
end
set_option maxRecDepth 100000 in
set_option maxHeartbeats 8000000 in
theorem ChainBack_any {ad : Nat → Addr} {w : World} (hL : Env NoB ad w) (hfu : Full ad) (v : Value) (l : List Int) (hl : Sl NoB w 1 encI v l) (fg : Bool) :
    Calls Tryd.prog 5 #[v, .bool fg] w fun e w' => e = .returned (.bool true) ∧ Ext w w' := by
  obtain ⟨a, cap, rfl, h1, h2, h3, h4⟩ := hl
  unfold maxLen at h2
  obtain ⟨n, hn⟩ : ∃ n, n = l.length := ⟨_, rfl⟩
  rw [← hn] at h1 h3 ⊢
  have HN := Lib.hid hn
  have H4 := Lib.hid h4
  have HL := Lib.hid hL
  have HFU := Lib.hid hfu
  clear hn h4 hL hfu
  go_enter Tryd.func5, Tryd.ntmps5
  go_wp2_with fail
  refine (pager_any HL.out 100 (by omega) (by omega)).mono ?_
  rintro e w1 ⟨c, s, P, F, rfl, hG, hN⟩
  have hS := LS.start hG hN
  rw [spK_zero 100 (by omega)] at hS
  have HS := Lib.hid hS
  clear hG hN hS
  unfold pgV
  go_upto_block 0 with fail
  have HB0 : Hid (BackS ad w ((w1.alloc (.cells #[.pointer (some ⟨c, 0, none⟩), .pointer (some ⟨s, 0, none⟩), .int .u64 7] 29)).alloc (.cells #[] 3)) w1.heap.size c s l (.slice (some ⟨w1.heap.size + 1, 0, none⟩) 0 0) 0 P (fun k => F k ∨ k = w1.heap.size + 1) (G0 100) 0 []) := Lib.hid (by
    have hS := HS.out
    have hb : Blk ((w1.alloc (.cells #[.pointer (some ⟨c, 0, none⟩), .pointer (some ⟨s, 0, none⟩), .int .u64 7] 29)).alloc (.cells #[] 3)) (w1.heap.size + 1) #[] 3 := heap_at (by simp)
    have hsz := hS.ext0.size
    have hbd := hS.pg.bd
    refine ⟨hS.plus (X := w1.heap.size + 1) ((Mods.refl _ _).alloc _) (by simp) (by simp), ⟨Own.made (cur := #[]) (cap := 0) (l := ([] : List Nat)) (sz := 1) (enc := encN) (F := fun _ => False) hb (by simp at hsz; omega) (fun f => f) (by simp) (by simp [maxLen]) rfl rfl encN_ok.len, fun g hg => ?_⟩, rfl, BackI.nil _ _ _, by omega, by omega, rfl, rfl, by show 0 ≤ _; omega⟩
    simp [Value.ownBlock] at hg
    subst hg
    exact ⟨.inr rfl, fun hp => by have := hbd _ hp; simp at this⟩)
  clear HS
  go_cut [7] (fun s7 wx => ∃ (k kk : Nat) (offs : List Nat) (P1 F1 : Nat → Prop) (G1 : GA), k ≤ n ∧ k ≤ 8 ∧ Hid (BackS ad w wx w1.heap.size c s l s7 k P1 F1 G1 kk offs))
  case first =>
    go_wp2_with fail
    go_loopg [7, 8] (min n 8) (fun q v7 v8 wr => ∃ (k kk : Nat) (offs : List Nat) (P1 F1 : Nat → Prop) (G1 : GA), k + q = min n 8 ∧ v8 = .int .i64 k ∧ Hid (BackS ad w wr w1.heap.size c s l v7 k P1 F1 G1 kk offs))
    case atStart => exact ⟨0, 0, [], _, _, _, by omega, rfl, HB0⟩
    case round =>
      obtain ⟨k, kk, offs, P1, F1, G1, hk, rfl, HW⟩ := hrel
      have hol : (offs.map (· + 2)).length = k := by rw [List.length_map, HW.out.len]
      obtain ⟨a7, cap7, rfl, hcap, hcap2, hcap3, _⟩ := HW.out.row.sl encN_ok.len (by rw [hol]; omega)
      unfold maxLen at hcap2
      rw [hol] at HW hcap hcap3 ⊢
      clear hol
      by_cases hlt : k < min n 8
      · have hlt1 : k < n := by omega
        have hlt2 : k < 8 := by omega
        obtain ⟨bA, offA, rfl, hb1, hF1, hc1⟩ := Sl.atE H4.out (Mods.refl _ w) k (by rw [← HN.out]; exact hlt1)
        obtain ⟨z, hz⟩ : ∃ z, z = l[k]'(by rw [← HN.out]; exact hlt1) := ⟨_, rfl⟩
        have d0 := hc1 0 (.int .i64 z) (by rw [hz]; rfl)
        simp only [Nat.mul_one, Nat.add_zero] at d0
        have d1 := HW.out.ls.cellOld d0
        have HZ : Hid (l[k]? = some z) := Lib.hid (by rw [hz]; exact List.getElem?_eq_getElem _)
        have HD0 := Lib.hid d0
        obtain ⟨na, hna⟩ : ∃ k : Nat, lenI z = (k : Int) := ⟨(lenI z).toNat, by have := lenI_range z; omega⟩
        have ha1 : 25 ≤ na ∧ na ≤ 4096 := by have := lenI_range z; omega
        obtain ⟨ha25, ha4⟩ := ha1
        have HNA : Hid (na = (lenI z).toNat) := Lib.hid (by rw [hna, Int.toNat_natCast])
        have HA := Lib.hid hna
        have MA := Lib.hid (ndK_le na ha4)
        obtain ⟨sd, hsd⟩ : ∃ sd, sd = UInt8.ofNat k := ⟨_, rfl⟩
        have hsd2 : sd.toNat = k := by rw [hsd, UInt8.toNat_ofNat']; omega
        have HSD := Lib.hid hsd
        have t0 := HW.out.ls.c0
        have t1 := HW.out.ls.c1
        have t2 := HW.out.ls.c2
        have HWd := Lib.hid HW.out.ls.drew
        have u1 : IntKind.u8.wrap (k : Int) = (sd.toNat : Int) := by rw [hsd2]; exact IntWalk.u8_in _ (by omega)
        have hj0 : (0 : Int) ≤ (k : Int) := by omega
        have hj1 : (k : Int) < (n : Int) := by omega
        clear hc1 hz hna hsd hsd2 d0
        go_wp2_with fail
        go_region_held3 (fun w' => w'.cell? ⟨w1.heap.size, 0, none⟩ = some (.pointer (some ⟨c, 0, none⟩)) ∧ w'.cell? ⟨w1.heap.size, 1, none⟩ = some (.pointer (some ⟨s, 0, none⟩)) ∧ w'.cell? ⟨w1.heap.size, 2, none⟩ = some (.int .u64 7) ∧ w'.cell? ⟨bA, offA + k, none⟩ = some (.int .i64 z))
          (first | (with_reducible exact ⟨x0, x1, x2, x3⟩) | (with_reducible exact ⟨z0, z1, z2, z3⟩) | go_keep)
          (first
            | (go_at_call 13; refine (length_any z _).mono ?_; rintro e w2 ⟨rfl, rfl⟩; rw [HA.out])
            | (go_at_call 15; refine (tx_any na ha4 sd _).mono ?_; rintro e w3 ⟨rfl, hm3⟩; have x0 := cellE hm3 t0; have x1 := cellE hm3 t1; have x2 := cellE hm3 t2; have x3 := cellE hm3 d1)
            | (go_at_call 14; refine (lsWriteN (HWd.out.ext hm3) HW.out.blocks HW.out.size HW.out.k98 (by have := HW.out.cost; omega) (tx na sd) (by rw [tx_size]; exact ha25) (by rw [tx_size]; exact ha4)).mono ?_; rintro e w4 ht4; obtain ⟨iv, ev, rfl⟩ := ht4.form; obtain ⟨⟨z0, z1, z2⟩, zo⟩ := ht4.cells; have z3 := zo _ _ _ HD0.out; clear zo))
        have HR4 : Hid (∀ P' F' : Nat → Prop, Nxt P1 P' F1 F' ad w3 w4 → LocR w F' P' w4 3 1 encN (.slice a7 k cap7) (offs.map (· + 2))) := Lib.hid (fun P' F' n => ((HW.out.row.ext (Mods.refl _ wr).drew).ext hm3).nxt n)
        have HT4 := Lib.hid ht4
        clear x0 x1 x2 x3 z0 z1 z2 z3 hm3 ht4 t0 t1 t2 d1 u1
        by_cases hc : kk + 2 + ndK na ≤ 100
        · obtain ⟨id, hid, rfl, rfl, P4, F4, G4, hS4, hp4, hN4⟩ := HT4.out.okT hc
          have HID := Lib.hid hid
          have HS4 := Lib.hid hS4
          have HP4 := Lib.hid hp4
          have HR5 := Lib.hid (HR4.out P4 F4 hN4)
          clear hid hS4 hp4 hN4
          have HBASE : Hid (w.heap.size ≤ w4.heap.size) := Lib.hid HS4.out.ext0.size
          have hol : (offs.map (· + 2)).length = k := by rw [List.length_map, HW.out.len]
          have HOL := Lib.hid hol
          clear hol
          go_wp2_with (at_builtin; refine wpl_app2 Tryd.elI encN_ok rfl _ _ rfl w.heap.size (.slice a7 k cap7) (.slice (some ⟨w4.heap.size, 0, none⟩) 1 1) (offs.map (· + 2)) [id] rfl rfl ((HR5.out.ext ((Mods.refl _ _).alloc _)).1) (Sl.one (F := fun _ => False) (x := id) (t := 3) (fz := (0, 0)) (heap_at rfl) (fun f => f)) (by rw [HOL.out]; simp; omega) (Nat.le_trans HBASE.out (by simp)) (fun f => f) ?_; intro a' c' w5 hown hmod hat)
          have e1 : (offs.map (· + 2)).length + [id].length = offs.length + 1 := by simp
          rw [e1] at hown hat
          clear e1
          have HNX : Hid (∃ P5 F5, BackS ad w w5 w1.heap.size c s l (.slice a' (offs.length + 1) c') (k + 1) P5 F5 G4 (kk + ndK na) (offs ++ [kk])) := Lib.hid (by
            have hL5 := HS4.out.ext ((Mods.refl _ w4).alloc (.cells #[.int .i64 (id : Int)] 3))
            have hR5 := HR5.out.ext ((Mods.refl _ w4).alloc (.cells #[.int .i64 (id : Int)] 3))
            obtain ⟨q1, q2⟩ := hL5.app hR5 hown hmod hat (Nat.le_refl _)
            have hB := HW.out.back.put (n := na) (z := z) (by rw [HW.out.len]; exact HZ.out) HNA.out (by rw [HW.out.len, ← HSD.out]; exact HP4.out) HW.out.size
            have := MA.out
            exact ⟨_, _, q1, by rw [List.map_append]; rw [HID.out] at q2; exact q2, by rw [List.length_append, HW.out.len]; rfl, hB, by have := HW.out.k18; omega, by omega, HP4.out.blocks.trans HW.out.blocks, HP4.out.size.trans HW.out.size, by rw [HP4.out.cost]; have := HW.out.cost; omega⟩)
          clear hown hmod hat
          obtain ⟨P5, F5, hNX⟩ := HNX.out
          go_roundg (gk - 1)
          case measure => omega
          case rel => exact ⟨k + 1, kk + ndK na, offs ++ [kk], P5, F5, G4, by omega, by go_num, Lib.hid hNX⟩
        · obtain ⟨rfl, P4, F4, a, f, rfl, hS4, ha4', hE4, hN4⟩ := HT4.out.full (by rw [tx_size]; omega)
          have HE4 := Lib.hid hE4
          have HW0 := Lib.hid HW.out
          have HW4 : Hid (BackS ad w w4 w1.heap.size c s l (.slice a7 k cap7) k P4 F4 (giveG G1 a) kk offs) := Lib.hid ⟨hS4, HR4.out P4 F4 hN4, HW.out.len, HW.out.back.give a ha4', HW.out.k18, HW.out.k98, (giveG_same a G1).1.trans HW.out.blocks, (giveG_same a G1).2.1.trans HW.out.size, by rw [(giveG_same a G1).2.2.1]; exact HW.out.cost⟩
          clear HW HW0 HT4 HR4 HWd hS4 ha4' hE4 hN4
          go_wp2_with fail
          refine (tellsC HW4.out.ls.env HFU.out HE4.out 3 (by omega) rfl).mono ?_
          rintro e w5 ⟨rfl, rfl⟩
          go_wp2_with fail
          go_meet
          exact ⟨k, kk, offs, P4, F4, _, by omega, by omega, HW4⟩
      · by_cases hlt1 : k < n
        · have hlt2 : ¬ k < 8 := by omega
          go_wp2_with fail
          go_meet
          exact ⟨k, kk, offs, P1, F1, G1, by omega, by omega, HW⟩
        · go_wp2_with fail
          go_meet
          exact ⟨k, kk, offs, P1, F1, G1, by omega, by omega, HW⟩
  case rest =>
  obtain ⟨k, kk, offs, P1, F1, G1, hkn, hk8, HW⟩ := hcut
  have hol : (offs.map (· + 2)).length = k := by rw [List.length_map, HW.out.len]
  obtain ⟨a7, cap7, rfl, hcap, hcap2, hcap3, _⟩ := HW.out.row.sl encN_ok.len (by rw [hol]; omega)
  unfold maxLen at hcap2
  rw [hol] at HW hcap hcap3 ⊢
  clear hol
  go_upto_if 53 with fail
  go_cut [] (fun wx => ∃ (P2 F2 : Nat → Prop) (G2 : GA), Hid (LS ad w wx w1.heap.size c s P2 F2 G2 (spK 100 kk) ∧ LocR w F2 P2 wx 3 1 encN (.slice a7 k cap7) (offs.map (· + 2)) ∧ BackI l G2 kk offs ∧ G2.blocks = 100 ∧ G2.size = 256))
  case first =>
    have t0 := HW.out.ls.c0
    cases fg with
    | true =>
      go_wp2_with fail
      refine (lsFlush HW.out.ls).mono ?_
      rintro e w20 ⟨P20, F20, rfl, hS20, hN20⟩
      have HR20 := Lib.hid (HW.out.row.nxt hN20)
      have HS20 := Lib.hid hS20
      clear hS20 hN20 t0
      have t0 := HS20.out.c0
      go_wp2_with fail
      refine (lsForget HS20.out).mono ?_
      rintro e w21 ⟨P21, F21, rfl, hS21, hN21⟩
      have HT := Lib.hid (And.intro hS21 (And.intro (HR20.out.nxt hN21) (And.intro (HW.out.back.forget HW.out.size (by have := HW.out.k98; omega)) (And.intro HW.out.blocks HW.out.size))))
      clear hS21 hN21 t0
      go_wp2_with fail
      go_meet
      exact ⟨P21, F21, _, HT⟩
    | false =>
      go_wp2_with fail
      go_meet
      exact ⟨P1, F1, G1, Lib.hid ⟨HW.out.ls, HW.out.row, HW.out.back, HW.out.blocks, HW.out.size⟩⟩
  case rest =>
  obtain ⟨P9, F9, G2, HT⟩ := hcut
  go_wp2_with fail
  have GB : Hid (G2.blocks = 100 ∧ G2.size = 256) := Lib.hid HT.out.2.2.2
  go_loopg [11] k (fun q v11 wz => ∃ (j : Nat) (P2 F2 : Nat → Prop), j + q = k ∧ v11 = .int .i64 j ∧ Hid (LS ad w wz w1.heap.size c s P2 F2 G2 (spK 100 kk) ∧ LocR w F2 P2 wz 3 1 encN (.slice a7 k cap7) (offs.map (· + 2))))
  case atStart => exact ⟨0, _, _, by omega, rfl, Lib.hid ⟨HT.out.1, HT.out.2.1⟩⟩
  case round =>
    obtain ⟨j, P2, F2, hj, rfl, HV⟩ := hrel
    by_cases hltj : j < k
    · have hjn : j < l.length := by rw [← HN.out]; omega
      have hj8 : j < 8 := by omega
      obtain ⟨b1, off1, rfl, hb1, hF1, hc1⟩ := Sl.atE H4.out (Mods.refl _ w) j hjn
      obtain ⟨z, hz⟩ : ∃ z, z = l[j] := ⟨_, rfl⟩
      have d0 := hc1 0 (.int .i64 z) (by rw [hz]; rfl)
      simp only [Nat.mul_one, Nat.add_zero] at d0
      have d1 := HV.out.1.cellOld d0
      have hoj : j < offs.length := by rw [HW.out.len]; exact hltj
      obtain ⟨o, ho⟩ : ∃ o, o = offs[j] := ⟨_, rfl⟩
      have ho2 : offs[j]? = some o := by rw [ho]; exact List.getElem?_eq_getElem hoj
      obtain ⟨z', hz', hH, hle⟩ := HT.out.2.2.1 j o ho2
      have hzz : z' = z := by rw [hz]; rw [List.getElem?_eq_getElem hjn] at hz'; injection hz' with hz'; exact hz'.symm
      subst hzz
      obtain ⟨na, hna⟩ : ∃ k : Nat, lenI z' = (k : Int) := ⟨(lenI z').toNat, by have := lenI_range z'; omega⟩
      have ha1 : 25 ≤ na ∧ na ≤ 4096 := by have := lenI_range z'; omega
      obtain ⟨ha25, ha4⟩ := ha1
      rw [hna, Int.toNat_natCast] at hH hle
      obtain ⟨sd, hsd⟩ : ∃ sd, sd = UInt8.ofNat j := ⟨_, rfl⟩
      have hsd2 : sd.toNat = j := by rw [hsd, UInt8.toNat_ofNat']; omega
      rw [← hsd] at hH
      obtain ⟨b2, off2, hae, hb2, hF2, hP2, hc2⟩ := HV.out.2.at encN_ok (by rw [List.length_map, HW.out.len]; omega) (j := j) (y := o + 2) (by rw [List.getElem?_map, ho2]; rfl)
      subst hae
      obtain ⟨id, hid⟩ : ∃ id, id = o + 2 := ⟨_, rfl⟩
      have c0 := hc2 (.int .i64 (id : Int)) (by rw [hid]; rfl)
      have HA := Lib.hid hna
      have HH := Lib.hid hH
      have HLE := Lib.hid hle
      have HID := Lib.hid hid
      have HP2 := Lib.hid hP2
      have HD0 := Lib.hid d0
      have t0 := HV.out.1.c0
      have t1 := HV.out.1.c1
      have t2 := HV.out.1.c2
      have HVd := Lib.hid HV.out.1.drew
      have u1 : IntKind.u8.wrap (j : Int) = (sd.toNat : Int) := by rw [hsd2]; exact IntWalk.u8_in _ (by omega)
      have HSD2 : Hid (sd.toNat = j) := Lib.hid hsd2
      have hj0 : (0 : Int) ≤ (j : Int) := by omega
      have hj1 : (j : Int) < (n : Int) := by omega
      have hj2 : (j : Int) < (k : Int) := by omega
      clear hc1 hc2 hz hz' hsd hsd2 ho ho2 hH hle hid hna d0 hP2
      go_wp2_with fail
      go_region_held3 (fun w' => w'.cell? ⟨w1.heap.size, 0, none⟩ = some (.pointer (some ⟨c, 0, none⟩)) ∧ w'.cell? ⟨w1.heap.size, 1, none⟩ = some (.pointer (some ⟨s, 0, none⟩)) ∧ w'.cell? ⟨w1.heap.size, 2, none⟩ = some (.int .u64 7) ∧ w'.cell? ⟨b2, off2 + j, none⟩ = some (.int .i64 (id : Int)) ∧ w'.cell? ⟨b1, off1 + j, none⟩ = some (.int .i64 z'))
        (first | (with_reducible exact ⟨z0, z1, z2, z3, z4⟩) | go_keep)
        (first
          | (go_at_call 13; refine (length_any z' _).mono ?_; rintro e w22 ⟨rfl, rfl⟩; rw [HA.out])
          | (go_at_call 18; refine (lsReadN (k := o) HVd.out GB.out.2 (by rw [GB.out.1]; omega) (tx na sd) (by rw [tx_size]; exact HH.out) (by rw [tx_size, GB.out.1]; have := HLE.out; have := HW.out.k98; omega) (by rw [tx_size]; exact ha25) (by rw [tx_size]; exact ha4) id na HID.out (by rw [tx_size])).mono ?_; rintro e w23 ⟨P3, F3, rfl, hS3, hN3⟩; have z0 := hS3.c0; have z1 := hS3.c1; have z2 := hS3.c2; have z3 := hN3.cellK (w := wr.drew) c0 HP2.out; have z4 := hS3.cellOld HD0.out))
      have HV3 : Hid (LS ad w w23 w1.heap.size c s P3 F3 G2 (spK 100 kk) ∧ LocR w F3 P3 w23 3 1 encN (.slice (some ⟨b2, off2, none⟩) k cap7) (offs.map (· + 2))) := Lib.hid ⟨hS3, (HV.out.2.ext (Mods.refl _ wr).drew).nxt hN3⟩
      clear z0 z1 z2 z3 hS3 hN3 t0 t1 t2 c0 d1 u1
      go_wp2_with fail
      refine (length_any z' _).mono ?_
      rintro e w24 ⟨rfl, rfl⟩
      rw [HA.out]
      go_wp2_with fail
      have HTX := tx_any na ha4 sd
      rw [HSD2.out] at HTX
      refine (HTX _).mono ?_
      rintro e w25 ⟨rfl, hm25⟩
      have HV5 : Hid (LS ad w w25 w1.heap.size c s P3 F3 G2 (spK 100 kk) ∧ LocR w F3 P3 w25 3 1 encN (.slice (some ⟨b2, off2, none⟩) k cap7) (offs.map (· + 2))) := Lib.hid ⟨HV3.out.1.ext hm25, HV3.out.2.ext hm25⟩
      clear hm25 z4 HTX
      go_wp2_with fail
      go_roundg (gk - 1)
      case measure => omega
      case rel => exact ⟨j + 1, P3, F3, by omega, by go_num, HV5⟩
    · go_wp2_with fail
      refine (awake_any (HL.out.mods HV.out.1.ext0)).mono ?_
      rintro e w26 ⟨rfl, hm26⟩
      have HM26 := Lib.hid (HV.out.1.ext0.trans hm26)
      clear hm26
      go_wp2_with fail
      go_ret
      exact ⟨rfl, HM26.out⟩
end Go.Proofs.YtidjkcfjocppmaaDoor
