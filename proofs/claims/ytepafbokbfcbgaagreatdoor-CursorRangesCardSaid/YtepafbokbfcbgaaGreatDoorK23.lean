/- ref03.Put of a fresh row. | The state of a law of chapter 10: its pager lies in a box. | ref10.Body. -/
import Derived.Test.YtepafbokbfcbgaaGreatDoorK22
import Derived.Test.YtepafbokbfcbgaaGreatDoorK20
import Derived.Test.YtepafbokbfcbgaaGreatDoorK19
import Derived.Laws.IdiomStrings
import Derived.IntWalk
namespace Go.Proofs.YtepafbokbfcbgaaGreatDoor
open Go.RowKit
theorem leB_snoc : ∀ (k n : Nat), leB (k + 1) n = leB k n ++ [UInt8.ofNat (n / 256 ^ k)]
  | 0, n => by simp [leB]
  | k + 1, n => by
    rw [leB, leB_snoc k (n / 256), leB, List.cons_append, Nat.div_div_eq_div_mul, Nat.pow_succ, Nat.mul_comm 256]
theorem leB_len03 : ∀ (k n : Nat), (leB k n).length = k
  | 0, _ => rfl
  | k + 1, n => by rw [leB, List.length_cons, leB_len03 k]
set_option maxRecDepth 100000 in
theorem Put03_any {F : Nat → Prop} {w : World} (bv : Value) (l : List UInt8) (hb : Sl F w 1 encB bv l) (n W : Nat) (hw : W = 1 ∨ W = 2 ∨ W = 4 ∨ W = 8) (hn : n < 256 ^ W) (h64 : n < 18446744073709551616) (hlen : l.length ≤ 100000) :
    Calls Tryz.prog 140 #[bv, .int .u64 (n : Int), .int .i64 (W : Int)] w fun e w' => ∃ a c, e = .returned (.tuple #[.slice a (l.length + W) c, .int .i64 0]) ∧
      Own (fun _ => False) w' w.heap.size 5 1 encB (.slice a (l.length + W) c) (l ++ leB W n) ∧ Ext w w' := by
  have hw8 : W ≤ 8 := by omega
  have HB := Lib.hid hb
  have HN := Lib.hid hn
  have HW := Lib.hid hw
  obtain ⟨ba, bc, rfl, i1, i2, i3, i4⟩ := hb
  clear i4 hn hw
  go_enter Tryz.func140, Tryz.ntmps140
  go_wp2_with fail
  refine (Right03_any W HW.out _).mono ?_
  rintro e w1 ⟨rfl, rfl⟩
  go_wp2_with fail
  refine (Fits03_any n W hw8 HN.out h64 _).mono ?_
  rintro e w2 ⟨rfl, hm2⟩
  have HM2 := Lib.hid hm2
  have HSZ := Lib.hid hm2.size
  clear hm2
  go_wp2_with (at_builtin; refine wpl_app2 Tryz.elB encB_ok rfl _ _ rfl w.heap.size (.slice (some ⟨w2.heap.size, 0, none⟩) 0 0) _ ([] : List UInt8) l rfl rfl (Own.made (cur := #[]) (b := w2.heap.size) (cap := 0) (l := ([] : List UInt8)) (sz := 1) (enc := encB) (F := fun _ => False) (Blk.new w2 #[] 5) HSZ.out (fun f => f) (by simp) (by simp [maxLen]) rfl rfl encB_ok.len) (HB.out.ext (HM2.out.alloc _)) (by simp; omega) (Nat.le_trans HSZ.out (by simp)) (fun f => f) ?_; intro a' c' w4 hown hmod hat)
  have HM4 : Hid (Ext w w4) := Lib.hid ((HM2.out.alloc (.cells #[] 5)).trans' hmod (fun i hi h => by have := HSZ.out; simp [Value.ownBlock] at h; omega))
  have HO4 := Lib.hid hown
  clear hown hmod hat
  go_loopg [1, 8, 9] W (fun q v1 v8 v9 wr => ∃ (k m : Nat), k + q = W ∧ v1 = .int .u64 m ∧ v9 = .int .i64 k ∧ m < 18446744073709551616 ∧ Hid (m = n / 256 ^ k) ∧ Hid (Own (fun _ => False) wr w.heap.size 5 1 encB v8 (l ++ leB k n)) ∧ Hid (Ext w wr))
  case atStart => exact ⟨0, n, by omega, rfl, rfl, h64, Lib.hid (by simp), Lib.hid (by simpa [leB] using HO4.out), HM4⟩
  case round =>
    obtain ⟨k, m, hk, rfl, rfl, hm, HQ, HO, HM⟩ := hrel
    by_cases hltn : k < W
    · obtain ⟨R, hR⟩ : ∃ R, R = l ++ leB k n := ⟨_, rfl⟩
      have hfl : R.length = l.length + k := by rw [hR, List.length_append, leB_len03]
      have HS : Hid (l ++ leB (k + 1) n = R ++ [UInt8.ofNat m]) := Lib.hid (by rw [leB_snoc, HQ.out, hR, List.append_assoc])
      rw [← hR] at HO
      clear hR
      obtain ⟨a0, c0, rfl, _⟩ := HO.out.form
      have HSZ2 := Lib.hid HM.out.size
      have he : ((UInt8.ofNat m).toNat : Int) = (m : Int) % 256 := by rw [UInt8.toNat_ofNat']; omega
      obtain ⟨x, hx⟩ : ∃ x, x = UInt8.ofNat m := ⟨_, rfl⟩
      rw [← hx] at HS he
      clear hx
      go_wp2_with (at_builtin; refine wpl_app2 Tryz.elB encB_ok rfl _ _ rfl w.heap.size (.slice a0 R.length c0) (.slice (some ⟨wr.heap.size, 0, none⟩) 1 1) R [x] rfl rfl (HO.out.ext ((Mods.refl _ _).alloc _)) (Sl.one (F := fun _ => False) (x := x) (t := 5) (fz := (0, 0)) (by rw [show (encB x).toArray = #[.int .u8 ((m : Int) % 256)] by simp [encB, he]]; exact heap_at rfl) (fun f => f)) (by simp [hfl]; omega) (Nat.le_trans HSZ2.out (by simp)) (fun f => f) ?_; intro a5 c5 w5 hown hmod hat)
      go_roundg (gk - 1)
      case measure => omega
      case rel => exact ⟨k + 1, m / 256, by omega, by go_num, by go_num, by omega, Lib.hid (by rw [HQ.out, Nat.div_div_eq_div_mul, Nat.pow_succ]), Lib.hid (by rw [HS.out]; simpa [hfl] using hown), Lib.hid ((HM.out.alloc _).trans' hmod (fun i hi h => by have := (HO.out.lt i h).1; omega))⟩
    · obtain rfl : k = W := by omega
      have hfl : (l ++ leB k n).length = l.length + k := by rw [List.length_append, leB_len03]
      obtain ⟨a0, c0, rfl, _⟩ := HO.out.form
      go_wp2_with fail
      go_ret2
      exact ⟨a0, c0, by rw [← hfl]; rfl, hfl ▸ HO.out, HM.out⟩
end Go.Proofs.YtepafbokbfcbgaaGreatDoor
namespace Go.Proofs.YtepafbokbfcbgaaGreatDoor
open Go.RowKit
structure LS (ad : Nat → Addr) (w0 w : World) (B c s : Nat) (P F : Nat → Prop) (G : GA) (l : List Nat) : Prop where
  pg : PgR F w P c s G l
  nx : Nxt NoB P NoB F ad w0 w
  box : Blk w B #[.pointer (some ⟨c, 0, none⟩), .pointer (some ⟨s, 0, none⟩), .int .u64 7] 34
  nB : ¬ P B
  nF : ¬ F B
section
variable {ad : Nat → Addr} {w0 w w' : World} {B c s : Nat} {P P' F F' : Nat → Prop} {G G' : GA} {l l' : List Nat}
theorem LS.env (h : LS ad w0 w B c s P F G l) : Env F ad w := h.nx.env
theorem LS.sub (h : LS ad w0 w B c s P F G l) : ∀ k, P k → F k := h.nx.sub
theorem LS.step (h : LS ad w0 w B c s P F G l) (n : Nxt P P' F F' ad w w') (g : PgR F' w' P' c s G' l') : LS ad w0 w' B c s P' F' G' l' :=
  ⟨g, h.nx.trans n, n.blk h.box h.nB, n.not h.box.lt h.nB, fun f => h.nF (n.oldF B h.box.lt f)⟩
theorem LS.ext (h : LS ad w0 w B c s P F G l) (m : Ext w w') : LS ad w0 w' B c s P F G l := h.step (Nxt.ext h.env h.sub m) (h.pg.at m)
theorem LS.drew (h : LS ad w0 w B c s P F G l) : LS ad w0 w.drew B c s P F G l := h.ext (Mods.refl _ w).drew
theorem LS.ext0 (h : LS ad w0 w B c s P F G l) : Ext w0 w := h.nx.stp.mods
theorem LS.c0 (h : LS ad w0 w B c s P F G l) : w.cell? ⟨B, 0, none⟩ = some (.pointer (some ⟨c, 0, none⟩)) := h.box.cell rfl
theorem LS.c1 (h : LS ad w0 w B c s P F G l) : w.cell? ⟨B, 1, none⟩ = some (.pointer (some ⟨s, 0, none⟩)) := h.box.cell rfl
theorem LS.c2 (h : LS ad w0 w B c s P F G l) : w.cell? ⟨B, 2, none⟩ = some (.int .u64 7) := h.box.cell rfl
theorem LS.start (g : PgR F w P c s G l) (n : Nxt NoB P NoB F ad w0 w) : LS ad w0 (w.alloc (.cells #[.pointer (some ⟨c, 0, none⟩), .pointer (some ⟨s, 0, none⟩), .int .u64 7] 34)) w.heap.size c s P F G l :=
  ⟨g.at ((Mods.refl _ w).alloc _), n.trans (Nxt.ext n.env n.sub ((Mods.refl _ w).alloc _)), Blk.new w _ _, fun f => by have := g.bd _ f; omega, fun f => by have := n.env.lt _ f; omega⟩

/-- a new block X joins what is left alone. -/
theorem LS.plus (h : LS ad w0 w B c s P F G l) {X : Nat} (m : Ext w w') (h1 : w.heap.size ≤ X) (h2 : X < w'.heap.size) : LS ad w0 w' B c s P (fun k => F k ∨ k = X) G l :=
  ⟨h.pg.plusNew h.sub (Q := fun k => k = X) m (fun k hk => hk ▸ h1), h.nx.trans (Nxt.new (Q := fun k => k = X) h.env h.sub m (fun k hk => hk ▸ h1) (fun k hk => hk ▸ h2)), h.box.ext m, h.nB, fun hf => hf.elim h.nF (fun e => by have := h.box.lt; omega)⟩
/-- .. and is written. -/
theorem LS.own (h : LS ad w0 w B c s P F G l) {X : Nat} (hF : F X) (hP : ¬ P X) (m : Mods (fun k => k = X) w w') : LS ad w0 w' B c s P F G l := by
  have hX0 : w0.heap.size ≤ X := by
    rcases Nat.lt_or_ge X w0.heap.size with hlt | hge
    · exact (h.nx.oldF X hlt hF).elim
    · exact hge
  exact ⟨h.pg.plus (F' := F) m (fun k hk e => hP (e ▸ hk)) (fun k hk => hk ▸ hF) (fun _ _ h => h),
    ⟨⟨h.nx.stp.mods.trans' m (fun i hi e => by omega), h.nx.stp.old, fun k hk => Nat.lt_of_lt_of_le (h.nx.stp.bd k hk) m.size⟩, h.nx.sub, h.nx.grow, h.nx.oldF, h.nx.env.mods (m.mono (fun k hk => hk ▸ hF))⟩,
    h.box.mods m (fun e => h.nF (e ▸ hF)), h.nB, h.nF⟩
/-- the text of a law. -/
def tx (n : Nat) (seed : UInt8) : ByteArray := ⟨(textL n seed).toArray⟩
theorem textL_len (n : Nat) (seed : UInt8) : (textL n seed).length = n := by simp [textL]
theorem tx_list (n : Nat) (seed : UInt8) : (tx n seed).data.toList = textL n seed := rfl
theorem tx_size (n : Nat) (seed : UInt8) : (tx n seed).size = n := by
  rw [← size_toList, tx_list, textL_len]
/-- Write, in a law. -/
def LsWrote (ad : Nat → Addr) (w0 : World) (B c s b k : Nat) (G : GA) (v : ByteArray) (e : Ending) (w' : World) : Prop :=
  (∃ P' F', k + 2 + ndK v.size ≤ b ∧ e = .returned (.tuple #[.int .i64 ((k + 2 : Nat) : Int), .nilIface]) ∧ LS ad w0 w' B c s P' F' (chPuts 7 v.data.toList 228 (idsK k (ndK v.size)) (ndK v.size) G) (spK b (k + ndK v.size))) ∨
  (∃ P' F' a f, b < k + 2 + ndK v.size ∧ e = .returned (.tuple #[.int .i64 0, faultV f]) ∧ LS ad w0 w' B c s P' F' (giveG G a) (spK b k) ∧ (∀ id ∈ a, k + 2 ≤ id) ∧ ErrC F' ad w' (faultV f) [-1, -1] 3)
theorem LsWrote.form {b k : Nat} {v : ByteArray} {e : Ending} (h : LsWrote ad w0 B c s b k G v e w') : ∃ iv ev, e = .returned (.tuple #[iv, ev]) := by
  rcases h with ⟨_, _, _, h, _⟩ | ⟨_, _, _, _, _, h, _⟩
  · exact ⟨_, _, h⟩
  · exact ⟨_, _, h⟩
theorem LsWrote.ok {b k : Nat} {v : ByteArray} {iv ev : Value} (h : LsWrote ad w0 B c s b k G v (.returned (.tuple #[iv, ev])) w') (hk : k + 2 + ndK v.size ≤ b) :
    ∃ id : Nat, id = k + 2 ∧ iv = .int .i64 (id : Int) ∧ ev = .nilIface ∧ ∃ P' F', LS ad w0 w' B c s P' F' (chPuts 7 v.data.toList 228 (idsK k (ndK v.size)) (ndK v.size) G) (spK b (k + ndK v.size)) := by
  rcases h with ⟨P', F', _, h, hS⟩ | ⟨_, _, _, _, h, _⟩
  · simp only [Ending.returned.injEq, Value.tuple.injEq, Array.mk.injEq, List.cons.injEq, and_true] at h
    exact ⟨k + 2, rfl, h.1, h.2, P', F', hS⟩
  · omega
/-- what is known behind a Write. -/
structure PutG (G G' : GA) (v : List UInt8) (k m : Nat) : Prop where
  blocks : G'.blocks = G.blocks
  size : G'.size = G.size
  cost : G'.cost = G.cost + m
  here : G.size = 256 → Holds G' 7 v k m
  far : ∀ (v' : List UInt8) (k' m' : Nat), Holds G 7 v' k' m' → k' + m' ≤ k → Holds G' 7 v' k' m'
theorem putG (G : GA) (v : List UInt8) (k m : Nat) : PutG G (chPuts 7 v 228 (idsK k m) m G) v k m := by
  obtain ⟨h1, h2, h3⟩ := chPuts_same 7 v 228 (idsK k m) m G
  exact ⟨h1, h2, h3, fun hs => holds_puts G (by rw [hs]), fun v' k' m' h hk => holds_far h hk⟩
theorem LsWrote.okT {b k n : Nat} {seed : UInt8} {iv ev : Value} (h : LsWrote ad w0 B c s b k G (tx n seed) (.returned (.tuple #[iv, ev])) w') (hk : k + 2 + ndK n ≤ b) :
    ∃ id : Nat, id = k + 2 ∧ iv = .int .i64 (id : Int) ∧ ev = .nilIface ∧ ∃ P' F' G', LS ad w0 w' B c s P' F' G' (spK b (k + ndK n)) ∧ PutG G G' (textL n seed) k (ndK n) := by
  obtain ⟨id, h1, h2, h3, P', F', h4⟩ := h.ok (by rw [tx_size]; exact hk)
  rw [tx_size] at h4
  exact ⟨id, h1, h2, h3, P', F', _, h4, putG G (textL n seed) k (ndK n)⟩
theorem LsWrote.full {b k : Nat} {v : ByteArray} {iv ev : Value} (h : LsWrote ad w0 B c s b k G v (.returned (.tuple #[iv, ev])) w') (hk : b < k + 2 + ndK v.size) :
    iv = .int .i64 0 ∧ ∃ P' F' a f, ev = faultV f ∧ LS ad w0 w' B c s P' F' (giveG G a) (spK b k) ∧ (∀ id ∈ a, k + 2 ≤ id) ∧ ErrC F' ad w' (faultV f) [-1, -1] 3 := by
  rcases h with ⟨P', F', h, _⟩ | ⟨P', F', a, f, _, h, h1, h2, h3⟩
  · omega
  · simp only [Ending.returned.injEq, Value.tuple.injEq, Array.mk.injEq, List.cons.injEq, and_true] at h
    exact ⟨h.1, P', F', a, f, h.2, h1, h2, h3⟩
theorem LsWrote.box {b k : Nat} {v : ByteArray} {e : Ending} (h : LsWrote ad w0 B c s b k G v e w') : Blk w' B #[.pointer (some ⟨c, 0, none⟩), .pointer (some ⟨s, 0, none⟩), .int .u64 7] 34 := by
  rcases h with ⟨_, _, _, _, h⟩ | ⟨_, _, _, _, _, _, h, _⟩
  · exact h.box
  · exact h.box
/-- Read, in a law, of what is known. -/
def LsRead (ad : Nat → Addr) (w0 : World) (B c s : Nat) (G : GA) (l : List Nat) (v : ByteArray) (e : Ending) (w' : World) : Prop :=
  ∃ P' F', e = .returned (.tuple #[.string v, .nilIface]) ∧ LS ad w0 w' B c s P' F' G l
theorem lsRead {k : Nat} (h : LS ad w0 w B c s P F G l) (hs : G.size = 256) (hb : G.blocks ≤ 256) (v : ByteArray) (hH : Holds G 7 v.data.toList k (ndK v.size)) (hk : k + 2 + ndK v.size ≤ G.blocks) (h25 : 25 ≤ v.size) (h4096 : v.size ≤ 4096) (id n : Nat) (hid : id = k + 2) (hn : n = v.size) :
    Calls Tryz.prog 100 #[pgV c s 7, .int .i64 (id : Int), .int .i64 (n : Int)] w (LsRead ad w0 B c s G l v) := by
  subst hn hid
  have hl : v.data.toList.length = v.size := size_toList v
  have hf : Fit v.data.toList.length 228 (ndK v.size) := by rw [hl]; exact ndK_fit _ (by omega)
  obtain ⟨w1, w2⟩ := walk_all hf (by omega) hk hb hH
  have hz := chErr_holds hf (by omega) hk hb hH (by omega) (by omega)
  rw [hl] at w1 w2 hz
  refine (chRead_any h.env h.sub h.pg 7 ((k + 2 : Nat) : Int) (v.size : Int) (by omega) (fun _ _ => by rw [Int.toNat_natCast]; exact w2)).mono ?_
  rintro e w' ⟨P', F', hG, hN, ⟨_, rfl⟩ | ⟨er, f, he, _⟩⟩
  · refine ⟨P', F', ?_, h.step hN hG⟩
    rw [Int.toNat_natCast, w1]
    simp only [List.flatMap_map]
    rw [show (List.range' 0 (ndK v.size)).flatMap (fun x => pieceB v.data.toList 228 x) = v.data.toList from pieces_all _ _ _ (by rw [hl]; exact (ndK_fit _ (by omega)).hi)]
  · rw [hz] at he; cases he
end
end Go.Proofs.YtepafbokbfcbgaaGreatDoor
namespace Go.Proofs.YtepafbokbfcbgaaGreatDoor
open Go.RowKit
/-- '[]byte(s)'. -/
theorem conv_bytes {P : Program} {src dst e : TypeId} (hs : P.underlying src = some .string) (hd : P.underlying dst = some (.slice e)) (he : P.underlying e = some (.int .u8)) (w : World) (s : ByteArray) (z : Nat) (hz : z = s.size) (hl : s.size ≤ 1000000) :
    ∃ cap w', (convert src dst (.string s)).run P w = .ok (.slice (some ⟨w.heap.size, 0, none⟩) z cap) w' ∧ Ext w w' ∧ Sl (fun _ => False) w' 1 encB (.slice (some ⟨w.heap.size, 0, none⟩) z cap) s.data.toList := by
  subst hz
  refine ⟨_, _, run_bytes_of_string w src dst e s hs hd he, ((Mods.refl _ w).drew).alloc _, _, _, by rw [size_toList], ?_, ?_, by rw [size_toList]; omega, ?_⟩
  · rw [size_toList]; exact grownCap_ge w _ 0 e
  · exact grownCap_le_maxLen w _ 0 e (by unfold maxLen; omega)
  · refine .inr ⟨w.heap.size, 0, rfl, by simp, fun f => f, fun i x hx j u hu => ?_⟩
    have hil := (List.getElem?_eq_some_iff.1 hx).1
    rw [size_toList] at hil
    match j, hu with
    | 0, hu =>
      simp only [encB, List.getElem?_cons_zero, Option.some.injEq] at hu
      subst hu
      refine (cells_of_block (b := w.heap.size) (heap_alloc_new w.drew _) _).trans ?_
      simp only [Nat.zero_add, Nat.mul_one, Nat.add_zero]
      unfold bytesRow
      rw [Array.getElem?_append_left (by rw [Array.size_map]; exact hil), Array.getElem?_map]
      have h1 : s.data[i]? = some x := by rw [← Array.getElem?_toList]; exact hx
      rw [h1]
      rfl
    | j + 1, hu => simp [encB] at hu
set_option maxRecDepth 100000 in
set_option maxHeartbeats 1000000 in
theorem BodyO_any {F : Nat → Prop} {w : World} (v : ByteArray) (iv : Value) (ids : List Nat) (hi : Sl F w 1 encN iv ids) (hids : ∀ x ∈ ids, x < 4294967296) (hlen : ids.length ≤ 1000) (i : Nat) (hil : i < ids.length) (hv : i * 228 ≤ v.size) (h4096 : v.size ≤ 4096) :
    Calls Tryz.prog 126 #[.string v, iv, .int .i64 (i : Int), .int .i64 256] w fun e w' => ∃ bv, e = .returned bv ∧ Own (fun _ => False) w' w.heap.size 5 1 encB bv (leB 4 (ids.getD (i + 1) 0) ++ pieceB v.data.toList 228 i) ∧ Ext w w' := by
  obtain ⟨a, cap, rfl, h1, h2, h3, h4⟩ := hi
  unfold maxLen at h2
  obtain ⟨n, hn⟩ : ∃ n, n = ids.length := ⟨_, rfl⟩
  rw [← hn] at h1 h3 hlen hil ⊢
  obtain ⟨p, hp⟩ : ∃ p, p = i * 228 := ⟨_, rfl⟩
  rw [← hp] at hv
  obtain ⟨q, hq⟩ : ∃ q, q = min (p + 228) v.size := ⟨_, rfl⟩
  have hq1 : min ((p : Int) + 256 - 28) (v.size : Int) = (q : Int) := by omega
  have hpI : (i : Int) * 228 = (p : Int) := by omega
  have hpq : (p : Int) ≤ (q : Int) := by omega
  have hqv : (q : Int) ≤ (v.size : Int) := by omega
  have HX : Hid ((v.extract p q).data.toList = pieceB v.data.toList 228 i) := Lib.hid (by
    rw [piece_ext]; unfold pieceB
    rw [← hp]
    have hl : v.data.toList.length = v.size := size_toList v
    by_cases hc : p + 228 ≤ v.size
    · rw [show q - p = 228 by omega]
    · rw [List.take_of_length_le (by rw [List.length_drop, hl]; omega), List.take_of_length_le (by rw [List.length_drop, hl]; omega)])
  have HXZ : Hid ((v.extract p q).size ≤ 300) := Lib.hid (by rw [ByteArray.size_extract]; omega)
  obtain ⟨nx, hnx⟩ : ∃ nx, nx = ids.getD (i + 1) 0 := ⟨_, rfl⟩
  have hnx32 : nx < 4294967296 := by
    rw [hnx]
    by_cases hc : i + 1 < ids.length
    · simp only [List.getD, List.getElem?_eq_getElem hc, Option.getD_some]
      exact hids _ (List.getElem_mem _)
    · simp [List.getD, List.getElem?_eq_none (show ids.length ≤ i + 1 by omega)]
  rw [← hnx]
  have hin : i + 1 < n ∨ (n : Int) ≤ (i : Int) + 1 := by omega
  have HNX := Lib.hid hnx
  have HN := Lib.hid hn
  have H4 := Lib.hid h4
  have u1 : IntKind.i64.wrap ((p : Int)) = (p : Int) := IntWalk.i64_in _ (by omega)
  clear hnx hn h4 hp hq hids
  rcases hin with hin | hin
  · obtain ⟨b, off, rfl, hb, hF, hc⟩ := Sl.atE H4.out (Mods.refl _ w) (i + 1) (by rw [← HN.out]; exact hin)
    have c0 := hc 0 (.int .i64 (nx : Int)) (by
      have : ids[i + 1]'(by rw [← HN.out]; exact hin) = nx := by rw [HNX.out]; simp [List.getD, List.getElem?_eq_getElem (show i + 1 < ids.length by rw [← HN.out]; exact hin)]
      rw [this]; rfl)
    simp only [Nat.mul_one, Nat.add_zero] at c0
    have hinI : (i : Int) + 1 < (n : Int) := by omega
    clear hc
    go_enter Tryz.func126, Tryz.ntmps126
    go_wp2_with fail
    refine (Put03_any (F := fun _ => False) _ [] ⟨_, 0, rfl, Nat.le_refl _, by simp [maxLen], by simp, .inl rfl⟩ nx 4 (by omega) (by omega) (by omega) (by simp)).mono ?_
    rintro e w2 ⟨a2, c2, rfl, hown, hm⟩
    simp only [List.length_nil, Nat.zero_add, List.nil_append] at hown ⊢
    obtain ⟨z, hz⟩ : ∃ z, z = (v.extract p q).size := ⟨_, rfl⟩
    obtain ⟨cap3, w3, hconv, hm3, hsl⟩ := conv_bytes (P := Tryz.prog) Tryz.underlying9 Tryz.underlying89 Tryz.underlying5 w2 (v.extract p q) z hz (by have := HXZ.out; omega)
    have HM2 : Hid (Ext w w2) := Lib.hid (((Mods.refl _ w).alloc _).trans hm)
    have HM3 := Lib.hid (HM2.out.trans hm3)
    have HO := Lib.hid ((hown.rebase (base' := w.heap.size) (by simp)).ext hm3)
    have HSL := Lib.hid hsl
    have HZ := Lib.hid HM3.out.size
    clear hown hm hm3 hsl hz
    go_wp2_with (at_builtin; refine wpl_app2 Tryz.elB encB_ok rfl _ _ rfl w.heap.size (.slice a2 4 c2) _ (leB 4 nx) (v.extract p q).data.toList rfl rfl HO.out HSL.out (by rw [leB_length, size_toList]; have := HXZ.out; omega) HZ.out (fun f => f) ?_; intro a' c' w4 hown4 hmod hat)
    have HO4 := Lib.hid hown4
    have HM4 : Hid (Ext w w4) := Lib.hid (HM3.out.trans' hmod (fun i hi h => by have := (HO.out.lt i h).1; omega))
    clear hown4 hmod hat
    go_wp2_with fail
    go_ret
    refine ⟨_, rfl, ?_, HM4.out⟩
    have h := HO4.out
    rw [HX.out] at h
    have e : (leB 4 nx).length + (pieceB v.data.toList 228 i).length = (leB 4 nx).length + min (q - p) (v.size - p) := by rw [← HX.out, size_toList, ByteArray.size_extract]; omega
    rw [e] at h
    exact h 
  · have hinI : ¬ ((i : Int) + 1 < (n : Int)) := by omega
    have hnx0 : nx = 0 := by rw [HNX.out]; simp [List.getD, List.getElem?_eq_none (show ids.length ≤ i + 1 by rw [← HN.out]; omega)]
    subst hnx0
    go_enter Tryz.func126, Tryz.ntmps126
    go_wp2_with fail
    refine (Put03_any (F := fun _ => False) _ [] ⟨_, 0, rfl, Nat.le_refl _, by simp [maxLen], by simp, .inl rfl⟩ 0 4 (by omega) (by omega) (by omega) (by simp)).mono ?_
    rintro e w2 ⟨a2, c2, rfl, hown, hm⟩
    simp only [List.length_nil, Nat.zero_add, List.nil_append] at hown ⊢
    obtain ⟨z, hz⟩ : ∃ z, z = (v.extract p q).size := ⟨_, rfl⟩
    obtain ⟨cap3, w3, hconv, hm3, hsl⟩ := conv_bytes (P := Tryz.prog) Tryz.underlying9 Tryz.underlying89 Tryz.underlying5 w2 (v.extract p q) z hz (by have := HXZ.out; omega)
    have HM2 : Hid (Ext w w2) := Lib.hid (((Mods.refl _ w).alloc _).trans hm)
    have HM3 := Lib.hid (HM2.out.trans hm3)
    have HO := Lib.hid ((hown.rebase (base' := w.heap.size) (by simp)).ext hm3)
    have HSL := Lib.hid hsl
    have HZ := Lib.hid HM3.out.size
    clear hown hm hm3 hsl hz
    go_wp2_with (at_builtin; refine wpl_app2 Tryz.elB encB_ok rfl _ _ rfl w.heap.size (.slice a2 4 c2) _ (leB 4 0) (v.extract p q).data.toList rfl rfl HO.out HSL.out (by rw [leB_length, size_toList]; have := HXZ.out; omega) HZ.out (fun f => f) ?_; intro a' c' w4 hown4 hmod hat)
    have HO4 := Lib.hid hown4
    have HM4 : Hid (Ext w w4) := Lib.hid (HM3.out.trans' hmod (fun i hi h => by have := (HO.out.lt i h).1; omega))
    clear hown4 hmod hat
    go_wp2_with fail
    go_ret
    refine ⟨_, rfl, ?_, HM4.out⟩
    have h := HO4.out
    rw [HX.out] at h
    have e : (leB 4 0).length + (pieceB v.data.toList 228 i).length = (leB 4 0).length + min (q - p) (v.size - p) := by rw [← HX.out, size_toList, ByteArray.size_extract]; omega
    rw [e] at h
    exact h 
theorem Body_any {F : Nat → Prop} {w : World} (v : ByteArray) (iv : Value) (ids : List Nat) (hi : Sl F w 1 encN iv ids) (hids : ∀ x ∈ ids, x < 4294967296) (hlen : ids.length ≤ 1000) (i : Nat) (hil : i < ids.length) (hv : i * 228 ≤ v.size) (h4096 : v.size ≤ 4096) :
    Calls Tryz.prog 126 #[.string v, iv, .int .i64 (i : Int), .int .i64 256] w fun e w' => ∃ bv, e = .returned bv ∧ Sl (fun _ => False) w' 1 encB bv (leB 4 (ids.getD (i + 1) 0) ++ pieceB v.data.toList 228 i) ∧ Ext w w' := by
  refine (BodyO_any v iv ids hi hids hlen i hil hv h4096).mono ?_
  rintro e w' ⟨bv, rfl, ho, hm⟩
  exact ⟨bv, rfl, ho.sl encB_ok.len (by rw [List.length_append, leB_length]; unfold pieceB; rw [List.length_take]; omega), hm⟩
/-- .. as its reading says. -/
theorem Body_is {F : Nat → Prop} {w : World} (v : ByteArray) (iv : Value) (m : Nat) (hi : Sl F w 1 encN iv (firstL m)) (hm : m ≤ 1000) (i : Nat) (hil : i < m) (hv : i * 228 ≤ v.size) (h4096 : v.size ≤ 4096) (bd : List UInt8) (hbd : bd = leB 4 ((idsK 0 m).getD (i + 1) 0) ++ pieceB v.data.toList 228 i) (ln : Nat) (hln : ln = bd.length) :
    Calls Tryz.prog 126 #[.string v, iv, .int .i64 (i : Int), .int .i64 256] w fun e w' => ∃ a cap, e = .returned (.slice a ln cap) ∧ Sl (fun _ => False) w' 1 encB (.slice a ln cap) bd ∧ Ext w w' := by
  have hfl : (firstL m).length = m := by simp [firstL]
  refine (Body_any v iv (firstL m) hi (fun x hx => ?_) (by omega) i (by omega) hv h4096).mono ?_
  · unfold firstL at hx
    rw [List.mem_map] at hx
    obtain ⟨q, hq, rfl⟩ := hx
    rw [List.mem_range] at hq
    omega
  · rintro e w' ⟨bv, rfl, hb, hm⟩
    rw [← idsK_first, ← hbd] at hb
    obtain ⟨a, cap, rfl, _⟩ := _root_.id hb
    subst hln
    exact ⟨a, cap, rfl, hb, hm⟩
end Go.Proofs.YtepafbokbfcbgaaGreatDoor
