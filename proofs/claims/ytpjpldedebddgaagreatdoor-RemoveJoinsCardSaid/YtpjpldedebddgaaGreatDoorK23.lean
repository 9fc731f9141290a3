/- (*node.reader).num, text. | ref03.Right, Fits, Put. | ref03.Put of a fresh row. | The state of a law of chapter 10: its pager lies in a box. | ref10.Body. | The disk under a pager: Flush; Forget and then Corrupt. | lookup.ready, lookup.check. -/
import Derived.Test.YtpjpldedebddgaaGreatDoorK08
import Derived.Test.YtpjpldedebddgaaGreatDoorK15
import Derived.Test.YtpjpldedebddgaaGreatDoorK20
import Derived.Test.YtpjpldedebddgaaGreatDoorK07
import Derived.Test.YtpjpldedebddgaaGreatDoorK21
import Derived.Laws.IdiomStrings
import Derived.IntWalk
import Derived.Test.YtpjpldedebddgaaGreatDoorK18
import Derived.Test.YtpjpldedebddgaaGreatDoorK06
namespace Go.Proofs.YtpjpldedebddgaaGreatDoor
open Go.RowKit
/-- a reader: its block, what it reads, where it stands. -/
structure RdR (F : Nat → Prop) (w : World) (B : Nat) (bv : Value) (b : List UInt8) (r : RdA) : Prop where
  own : Blk w B #[bv, .int .i64 r.at_, .bool r.bad] 327
  sl : Sl F w 1 encB bv b
  mem : F B
section
variable {F : Nat → Prop} {ad : Nat → Addr} {w w' : World} {B : Nat} {bv : Value} {b : List UInt8} {r : RdA}
theorem takeF_small (b : List UInt8) (p : Int) (W : Nat) (hW : W = 1 ∨ W = 2 ∨ W = 4) : (takeF b p W).1 < 4294967296 := by
  unfold takeF
  split
  · simp
  · split
    · simp
    · have := ofLe_lt ((b.drop p.toNat).take W)
      have h2 : ((b.drop p.toNat).take W).length ≤ 4 := Nat.le_trans (List.length_take_le _ _) (by omega)
      have h3 : (256 : Nat) ^ ((b.drop p.toNat).take W).length ≤ 256 ^ 4 := Nat.pow_le_pow_right (by omega) h2
      simp only
      omega
theorem RdR.ext (h : RdR F w B bv b r) (m : Ext w w') : RdR F w' B bv b r := ⟨h.own.ext m, h.sl.ext m, h.mem⟩
theorem RdR.turn (h : RdR F w B bv b r) (r' : RdA) (m : Mods (fun k => k = B) w w') (hB : Blk w' B #[bv, .int .i64 r'.at_, .bool r'.bad] 327) : RdR F w' B bv b r' :=
  ⟨hB, h.sl.mods (m.mono (fun k e => by subst e; exact h.mem)), h.mem⟩
set_option maxRecDepth 100000 in
theorem rdNum_any (hL : Env F ad w) (h : RdR F w B bv b r) (W : Nat) (hW : W = 1 ∨ W = 2 ∨ W = 4) (h0 : 0 ≤ r.at_) (h1 : r.at_ ≤ 1000000000000) :
    Calls Tryz.prog 245 #[.pointer (some ⟨B, 0, none⟩), .int .i64 (W : Int)] w fun e w' => e = .returned (.int .i64 ((rdNum b r W).1 : Nat)) ∧ RdR F w' B bv b (rdNum b r W).2 ∧ Mods (fun k => k = B) w w' := by
  obtain ⟨a, bd⟩ := r
  simp only at h0 h1
  have hsm := takeF_small b a W hW
  obtain ⟨sa, cap, rfl, hz, _, _, _⟩ := _root_.id h.sl
  obtain ⟨n, hn⟩ : ∃ n, n = (takeF b a W).1 := ⟨_, rfl⟩
  rw [← hn] at hsm
  have HN := Lib.hid hn
  have HH := Lib.hid h
  have HLd := Lib.hid (hL.mods (Mods.refl _ w).drew)
  have HSd := Lib.hid (h.sl.mods (Mods.refl _ w).drew)
  have HW := Lib.hid hW
  have hW4 : W ≤ 4 := by omega
  have c0 := h.own.cell (o := 0) (v := .slice sa b.length cap) rfl
  have c1 := h.own.cell (o := 1) (v := .int .i64 a) rfl
  have c2 := h.own.cell (o := 2) (v := .bool bd) rfl
  clear h hL hW hn
  go_enter Tryz.func245, Tryz.ntmps245
  go_wp2_with fail
  go_region_held3 (fun w' => w'.cell? ⟨B, 0, none⟩ = some (.slice sa b.length cap) ∧ w'.cell? ⟨B, 1, none⟩ = some (.int .i64 a))
    (first | (with_reducible exact ⟨x0, x1⟩) | go_keep)
    (first
      | (go_at_call 251; refine (Take_any HLd.out _ b HSd.out a W (by have := HW.out; omega)).mono ?_; rintro e w1 ⟨ev, rfl, hE, hm⟩; rw [← HN.out]; have x0 := cellE hm c0; have x1 := cellE hm c1))
  have x2 := cellE hm c2
  have HB := Lib.hid ((HH.out.own.drew).ext hm)
  have f1 := HB.out.frozen 1
  have f2 := HB.out.frozen 2
  have HM := Lib.hid (hm.ofDrew)
  have HM2 : Hid (∀ x : Bool, Mods (fun k => k = B) w ((w1.setCell ⟨B, 2, none⟩ (.bool x)).setCell ⟨B, 1, none⟩ (.int .i64 (a + W)))) :=
    Lib.hid fun x => HM.out.ext.trans ((Mods.at (fun k => k = B) w1 B 2 _ rfl).trans (Mods.at (fun k => k = B) _ B 1 _ rfl))
  clear c0 c1 c2 hm
  cases hT : (takeF b a W).2 with
  | none =>
    rw [hT] at hE
    cases hE
    have HR : Hid (rdNum b ⟨a, bd⟩ W = (n, ⟨a + W, bd⟩)) := Lib.hid (by unfold rdNum; simp only [hT, ← HN.out]; simp)
    clear hT
    cases bd
    all_goals
      go_wp2_with fail
      go_ret
      exact ⟨by rw [HR.out]; rfl, by rw [HR.out]; exact HH.out.turn _ (HM2.out _) ((HB.out.set 2 _).set 1 _), HM2.out _⟩
  | some er =>
    rw [hT] at hE
    obtain ⟨el, ek⟩ := er
    obtain ⟨f, rfl, hE⟩ := hE
    have HR : Hid (rdNum b ⟨a, bd⟩ W = (n, ⟨a + W, true⟩)) := Lib.hid (by unfold rdNum; simp only [hT, ← HN.out]; simp)
    clear hT hE
    cases bd
    all_goals
      go_wp2_with fail
      go_ret
      exact ⟨by rw [HR.out]; rfl, by rw [HR.out]; exact HH.out.turn _ (HM2.out _) ((HB.out.set 2 _).set 1 _), HM2.out _⟩
end
end Go.Proofs.YtpjpldedebddgaaGreatDoor
namespace Go.Proofs.YtpjpldedebddgaaGreatDoor
open Go.RowKit
set_option maxRecDepth 100000 in
theorem Right03_any (W : Nat) (hw : W = 1 ∨ W = 2 ∨ W = 4 ∨ W = 8) (w : World) : Calls Tryz.prog 229 #[.int .i64 (W : Int)] w fun e w' => e = .returned (.bool true) ∧ w = w' := by
  rcases hw with rfl | rfl | rfl | rfl
  all_goals
    go_enter Tryz.func229, Tryz.ntmps229
    go_wp2_with fail
    go_ret
    exact ⟨rfl, rfl⟩
set_option maxRecDepth 100000 in
theorem Fits03_any (n W : Nat) (hw : W ≤ 8) (hn : n < 256 ^ W) (h64 : n < 18446744073709551616) (w : World) : Calls Tryz.prog 230 #[.int .u64 (n : Int), .int .i64 (W : Int)] w fun e w' => e = .returned (.bool true) ∧ Ext w w' := by
  have HN := Lib.hid hn
  clear hn
  go_enter Tryz.func230, Tryz.ntmps230
  go_wp2_with fail
  go_loopg [0, 5] W (fun q v0 v5 wr => ∃ (k m : Nat), k + q = W ∧ v0 = .int .u64 m ∧ v5 = .int .i64 k ∧ m < 18446744073709551616 ∧ Hid (m = n / 256 ^ k) ∧ Hid (Ext w wr))
  case atStart => exact ⟨0, n, by omega, rfl, rfl, h64, Lib.hid (by simp), Lib.hid (Mods.refl _ w)⟩
  case round =>
    obtain ⟨k, m, hk, rfl, rfl, hm, HQ, HM⟩ := hrel
    by_cases hltn : k < W
    · have hk8 : k < 8 := by omega
      go_wp2_with fail
      go_roundg (gk - 1)
      case measure => omega
      case rel => exact ⟨k + 1, m / 256, by omega, by go_num, by go_num, by omega, Lib.hid (by rw [HQ.out, Nat.div_div_eq_div_mul, Nat.pow_succ]), HM⟩
    · obtain rfl : k = W := by omega
      have hz : m = 0 := by rw [HQ.out]; exact Nat.div_eq_of_lt HN.out
      subst hz
      go_wp2_with fail
      go_ret
      exact ⟨rfl, HM.out⟩
end Go.Proofs.YtpjpldedebddgaaGreatDoor
namespace Go.Proofs.YtpjpldedebddgaaGreatDoor
open Go.RowKit
theorem leB_snoc : ∀ (k n : Nat), leB (k + 1) n = leB k n ++ [UInt8.ofNat (n / 256 ^ k)]
  | 0, n => by simp [leB]
  | k + 1, n => by
    rw [leB, leB_snoc k (n / 256), leB, List.cons_append, Nat.div_div_eq_div_mul, Nat.pow_succ, Nat.mul_comm 256]
theorem leB_len03 : ∀ (k n : Nat), (leB k n).length = k
  | 0, _ => rfl
  | k + 1, n => by rw [leB, List.length_cons, leB_len03 k]
set_option maxRecDepth 100000 in
theorem Put03_any {F : Nat → Prop} {w : World} (bv : Value) (l : List UInt8) (hb : Sl F w 1 encB bv l) (n W : Nat) (hw : W = 1 ∨ W = 2 ∨ W = 4 ∨ W = 8) (hn : n < 256 ^ W) (h64 : n < 18446744073709551616) (hlen : l.length ≤ 100000) :
    Calls Tryz.prog 186 #[bv, .int .u64 (n : Int), .int .i64 (W : Int)] w fun e w' => ∃ a c, e = .returned (.tuple #[.slice a (l.length + W) c, .int .i64 0]) ∧
      Own (fun _ => False) w' w.heap.size 5 1 encB (.slice a (l.length + W) c) (l ++ leB W n) ∧ Ext w w' := by
  have hw8 : W ≤ 8 := by omega
  have HB := Lib.hid hb
  have HN := Lib.hid hn
  have HW := Lib.hid hw
  obtain ⟨ba, bc, rfl, i1, i2, i3, i4⟩ := hb
  clear i4 hn hw
  go_enter Tryz.func186, Tryz.ntmps186
  go_wp2_with fail
  refine (Right03_any W HW.out _).mono ?_
  rintro e w1 ⟨rfl, rfl⟩
  go_wp2_with fail
  refine (Fits03_any n W hw8 HN.out h64 _).mono ?_
  rintro e w2 ⟨rfl, hm2⟩
  have HM2 := Lib.hid hm2
  have HSZ := Lib.hid hm2.size
  clear hm2
  go_wp2_with (at_builtin; refine wpl_app2 Tryz.elB encB_ok rfl _ _ rfl w.heap.size (.slice (some ⟨w2.heap.size, 0, none⟩) 0 0) _ ([] : List UInt8) l rfl rfl (Own.made (cur := #[]) (b := w2.heap.size) (cap := 0) (l := ([] : List UInt8)) (sz := 1) (enc := encB) (F := fun _ => False) (Blk.new w2 #[] 5) HSZ.out (fun f => f) (by simp) (by simp [maxLen]) rfl rfl encB_ok.len) (HB.out.ext (HM2.out.alloc _)) (by simp; omega) (Nat.le_trans HSZ.out (by simp)) (fun f => f) ?_; intro a' c' w4 hown hmod hat)
  have HM4 : Hid (Ext w w4) := Lib.hid ((HM2.out.alloc (.cells #[] 5)).trans' hmod (fun i hi h => by have := HSZ.out; simp [Value.ownBlock] at h; omega))
  have HO4 := Lib.hid hown
  clear hown hmod hat
  go_loopg [1, 8, 9] W (fun q v1 v8 v9 wr => ∃ (k m : Nat), k + q = W ∧ v1 = .int .u64 m ∧ v9 = .int .i64 k ∧ m < 18446744073709551616 ∧ Hid (m = n / 256 ^ k) ∧ Hid (Own (fun _ => False) wr w.heap.size 5 1 encB v8 (l ++ leB k n)) ∧ Hid (Ext w wr))
  case atStart => exact ⟨0, n, by omega, rfl, rfl, h64, Lib.hid (by simp), Lib.hid (by simpa [leB] using HO4.out), HM4⟩
  case round =>
    obtain ⟨k, m, hk, rfl, rfl, hm, HQ, HO, HM⟩ := hrel
    by_cases hltn : k < W
    · obtain ⟨R, hR⟩ : ∃ R, R = l ++ leB k n := ⟨_, rfl⟩
      have hfl : R.length = l.length + k := by rw [hR, List.length_append, leB_len03]
      have HS : Hid (l ++ leB (k + 1) n = R ++ [UInt8.ofNat m]) := Lib.hid (by rw [leB_snoc, HQ.out, hR, List.append_assoc])
      rw [← hR] at HO
      clear hR
      obtain ⟨a0, c0, rfl, _⟩ := HO.out.form
      have HSZ2 := Lib.hid HM.out.size
      have he : ((UInt8.ofNat m).toNat : Int) = (m : Int) % 256 := by rw [UInt8.toNat_ofNat']; omega
      obtain ⟨x, hx⟩ : ∃ x, x = UInt8.ofNat m := ⟨_, rfl⟩
      rw [← hx] at HS he
      clear hx
      go_wp2_with (at_builtin; refine wpl_app2 Tryz.elB encB_ok rfl _ _ rfl w.heap.size (.slice a0 R.length c0) (.slice (some ⟨wr.heap.size, 0, none⟩) 1 1) R [x] rfl rfl (HO.out.ext ((Mods.refl _ _).alloc _)) (Sl.one (F := fun _ => False) (x := x) (t := 5) (fz := (0, 0)) (by rw [show (encB x).toArray = #[.int .u8 ((m : Int) % 256)] by simp [encB, he]]; exact heap_at rfl) (fun f => f)) (by simp [hfl]; omega) (Nat.le_trans HSZ2.out (by simp)) (fun f => f) ?_; intro a5 c5 w5 hown hmod hat)
      go_roundg (gk - 1)
      case measure => omega
      case rel => exact ⟨k + 1, m / 256, by omega, by go_num, by go_num, by omega, Lib.hid (by rw [HQ.out, Nat.div_div_eq_div_mul, Nat.pow_succ]), Lib.hid (by rw [HS.out]; simpa [hfl] using hown), Lib.hid ((HM.out.alloc _).trans' hmod (fun i hi h => by have := (HO.out.lt i h).1; omega))⟩
    · obtain rfl : k = W := by omega
      have hfl : (l ++ leB k n).length = l.length + k := by rw [List.length_append, leB_len03]
      obtain ⟨a0, c0, rfl, _⟩ := HO.out.form
      go_wp2_with fail
      go_ret2
      exact ⟨a0, c0, by rw [← hfl]; rfl, hfl ▸ HO.out, HM.out⟩
end Go.Proofs.YtpjpldedebddgaaGreatDoor
namespace Go.Proofs.YtpjpldedebddgaaGreatDoor
open Go.RowKit
structure LS (ad : Nat → Addr) (w0 w : World) (B c s : Nat) (P F : Nat → Prop) (G : GA) (l : List Nat) : Prop where
  pg : PgR F w P c s G l
  nx : Nxt NoB P NoB F ad w0 w
  box : Blk w B #[.pointer (some ⟨c, 0, none⟩), .pointer (some ⟨s, 0, none⟩), .int .u64 7] 48
  nB : ¬ P B
  nF : ¬ F B
section
variable {ad : Nat → Addr} {w0 w w' : World} {B c s : Nat} {P P' F F' : Nat → Prop} {G G' : GA} {l l' : List Nat}
theorem LS.env (h : LS ad w0 w B c s P F G l) : Env F ad w := h.nx.env
theorem LS.sub (h : LS ad w0 w B c s P F G l) : ∀ k, P k → F k := h.nx.sub
theorem LS.step (h : LS ad w0 w B c s P F G l) (n : Nxt P P' F F' ad w w') (g : PgR F' w' P' c s G' l') : LS ad w0 w' B c s P' F' G' l' :=
  ⟨g, h.nx.trans n, n.blk h.box h.nB, n.not h.box.lt h.nB, fun f => h.nF (n.oldF B h.box.lt f)⟩
theorem LS.ext (h : LS ad w0 w B c s P F G l) (m : Ext w w') : LS ad w0 w' B c s P F G l := h.step (Nxt.ext h.env h.sub m) (h.pg.at m)
theorem LS.drew (h : LS ad w0 w B c s P F G l) : LS ad w0 w.drew B c s P F G l := h.ext (Mods.refl _ w).drew
theorem LS.ext0 (h : LS ad w0 w B c s P F G l) : Ext w0 w := h.nx.stp.mods
theorem LS.c0 (h : LS ad w0 w B c s P F G l) : w.cell? ⟨B, 0, none⟩ = some (.pointer (some ⟨c, 0, none⟩)) := h.box.cell rfl
theorem LS.c1 (h : LS ad w0 w B c s P F G l) : w.cell? ⟨B, 1, none⟩ = some (.pointer (some ⟨s, 0, none⟩)) := h.box.cell rfl
theorem LS.c2 (h : LS ad w0 w B c s P F G l) : w.cell? ⟨B, 2, none⟩ = some (.int .u64 7) := h.box.cell rfl
theorem LS.start (g : PgR F w P c s G l) (n : Nxt NoB P NoB F ad w0 w) : LS ad w0 (w.alloc (.cells #[.pointer (some ⟨c, 0, none⟩), .pointer (some ⟨s, 0, none⟩), .int .u64 7] 48)) w.heap.size c s P F G l :=
  ⟨g.at ((Mods.refl _ w).alloc _), n.trans (Nxt.ext n.env n.sub ((Mods.refl _ w).alloc _)), Blk.new w _ _, fun f => by have := g.bd _ f; omega, fun f => by have := n.env.lt _ f; omega⟩

/-- a new block X joins what is left alone. -/
theorem LS.plus (h : LS ad w0 w B c s P F G l) {X : Nat} (m : Ext w w') (h1 : w.heap.size ≤ X) (h2 : X < w'.heap.size) : LS ad w0 w' B c s P (fun k => F k ∨ k = X) G l :=
  ⟨h.pg.plusNew h.sub (Q := fun k => k = X) m (fun k hk => hk ▸ h1), h.nx.trans (Nxt.new (Q := fun k => k = X) h.env h.sub m (fun k hk => hk ▸ h1) (fun k hk => hk ▸ h2)), h.box.ext m, h.nB, fun hf => hf.elim h.nF (fun e => by have := h.box.lt; omega)⟩
/-- .. and is written. -/
theorem LS.own (h : LS ad w0 w B c s P F G l) {X : Nat} (hF : F X) (hP : ¬ P X) (m : Mods (fun k => k = X) w w') : LS ad w0 w' B c s P F G l := by
  have hX0 : w0.heap.size ≤ X := by
    rcases Nat.lt_or_ge X w0.heap.size with hlt | hge
    · exact (h.nx.oldF X hlt hF).elim
    · exact hge
  exact ⟨h.pg.plus (F' := F) m (fun k hk e => hP (e ▸ hk)) (fun k hk => hk ▸ hF) (fun _ _ h => h),
    ⟨⟨h.nx.stp.mods.trans' m (fun i hi e => by omega), h.nx.stp.old, fun k hk => Nat.lt_of_lt_of_le (h.nx.stp.bd k hk) m.size⟩, h.nx.sub, h.nx.grow, h.nx.oldF, h.nx.env.mods (m.mono (fun k hk => hk ▸ hF))⟩,
    h.box.mods m (fun e => h.nF (e ▸ hF)), h.nB, h.nF⟩
/-- the text of a law. -/
def tx (n : Nat) (seed : UInt8) : ByteArray := ⟨(textL n seed).toArray⟩
theorem textL_len (n : Nat) (seed : UInt8) : (textL n seed).length = n := by simp [textL]
theorem tx_list (n : Nat) (seed : UInt8) : (tx n seed).data.toList = textL n seed := rfl
theorem tx_size (n : Nat) (seed : UInt8) : (tx n seed).size = n := by
  rw [← size_toList, tx_list, textL_len]
/-- Write, in a law. -/
def LsWrote (ad : Nat → Addr) (w0 : World) (B c s b k : Nat) (G : GA) (v : ByteArray) (e : Ending) (w' : World) : Prop :=
  (∃ P' F', k + 2 + ndK v.size ≤ b ∧ e = .returned (.tuple #[.int .i64 ((k + 2 : Nat) : Int), .nilIface]) ∧ LS ad w0 w' B c s P' F' (chPuts 7 v.data.toList 228 (idsK k (ndK v.size)) (ndK v.size) G) (spK b (k + ndK v.size))) ∨
  (∃ P' F' a f, b < k + 2 + ndK v.size ∧ e = .returned (.tuple #[.int .i64 0, faultV f]) ∧ LS ad w0 w' B c s P' F' (giveG G a) (spK b k) ∧ (∀ id ∈ a, k + 2 ≤ id) ∧ ErrC F' ad w' (faultV f) [-1, -1] 3)
theorem LsWrote.form {b k : Nat} {v : ByteArray} {e : Ending} (h : LsWrote ad w0 B c s b k G v e w') : ∃ iv ev, e = .returned (.tuple #[iv, ev]) := by
  rcases h with ⟨_, _, _, h, _⟩ | ⟨_, _, _, _, _, h, _⟩
  · exact ⟨_, _, h⟩
  · exact ⟨_, _, h⟩
theorem LsWrote.ok {b k : Nat} {v : ByteArray} {iv ev : Value} (h : LsWrote ad w0 B c s b k G v (.returned (.tuple #[iv, ev])) w') (hk : k + 2 + ndK v.size ≤ b) :
    ∃ id : Nat, id = k + 2 ∧ iv = .int .i64 (id : Int) ∧ ev = .nilIface ∧ ∃ P' F', LS ad w0 w' B c s P' F' (chPuts 7 v.data.toList 228 (idsK k (ndK v.size)) (ndK v.size) G) (spK b (k + ndK v.size)) := by
  rcases h with ⟨P', F', _, h, hS⟩ | ⟨_, _, _, _, h, _⟩
  · simp only [Ending.returned.injEq, Value.tuple.injEq, Array.mk.injEq, List.cons.injEq, and_true] at h
    exact ⟨k + 2, rfl, h.1, h.2, P', F', hS⟩
  · omega
/-- what is known behind a Write. -/
structure PutG (G G' : GA) (v : List UInt8) (k m : Nat) : Prop where
  blocks : G'.blocks = G.blocks
  size : G'.size = G.size
  cost : G'.cost = G.cost + m
  here : G.size = 256 → Holds G' 7 v k m
  far : ∀ (v' : List UInt8) (k' m' : Nat), Holds G 7 v' k' m' → k' + m' ≤ k → Holds G' 7 v' k' m'
theorem putG (G : GA) (v : List UInt8) (k m : Nat) : PutG G (chPuts 7 v 228 (idsK k m) m G) v k m := by
  obtain ⟨h1, h2, h3⟩ := chPuts_same 7 v 228 (idsK k m) m G
  exact ⟨h1, h2, h3, fun hs => holds_puts G (by rw [hs]), fun v' k' m' h hk => holds_far h hk⟩
theorem LsWrote.okT {b k n : Nat} {seed : UInt8} {iv ev : Value} (h : LsWrote ad w0 B c s b k G (tx n seed) (.returned (.tuple #[iv, ev])) w') (hk : k + 2 + ndK n ≤ b) :
    ∃ id : Nat, id = k + 2 ∧ iv = .int .i64 (id : Int) ∧ ev = .nilIface ∧ ∃ P' F' G', LS ad w0 w' B c s P' F' G' (spK b (k + ndK n)) ∧ PutG G G' (textL n seed) k (ndK n) := by
  obtain ⟨id, h1, h2, h3, P', F', h4⟩ := h.ok (by rw [tx_size]; exact hk)
  rw [tx_size] at h4
  exact ⟨id, h1, h2, h3, P', F', _, h4, putG G (textL n seed) k (ndK n)⟩
theorem LsWrote.full {b k : Nat} {v : ByteArray} {iv ev : Value} (h : LsWrote ad w0 B c s b k G v (.returned (.tuple #[iv, ev])) w') (hk : b < k + 2 + ndK v.size) :
    iv = .int .i64 0 ∧ ∃ P' F' a f, ev = faultV f ∧ LS ad w0 w' B c s P' F' (giveG G a) (spK b k) ∧ (∀ id ∈ a, k + 2 ≤ id) ∧ ErrC F' ad w' (faultV f) [-1, -1] 3 := by
  rcases h with ⟨P', F', h, _⟩ | ⟨P', F', a, f, _, h, h1, h2, h3⟩
  · omega
  · simp only [Ending.returned.injEq, Value.tuple.injEq, Array.mk.injEq, List.cons.injEq, and_true] at h
    exact ⟨h.1, P', F', a, f, h.2, h1, h2, h3⟩
theorem LsWrote.box {b k : Nat} {v : ByteArray} {e : Ending} (h : LsWrote ad w0 B c s b k G v e w') : Blk w' B #[.pointer (some ⟨c, 0, none⟩), .pointer (some ⟨s, 0, none⟩), .int .u64 7] 48 := by
  rcases h with ⟨_, _, _, _, h⟩ | ⟨_, _, _, _, _, _, h, _⟩
  · exact h.box
  · exact h.box
theorem lsWrite {b k : Nat} (h : LS ad w0 w B c s P F G (spK b k)) (hb : G.blocks = b) (hs : G.size = 256) (hk : k + 2 ≤ b) (hco : G.cost + 100 ≤ 1000000) (v : ByteArray) (h25 : 25 ≤ v.size) (h4096 : v.size ≤ 4096) :
    Calls Tryz.prog 187 #[pgV c s 7, .string v] w (LsWrote ad w0 B c s b k G v) := by
  refine (chWrite_any h.env h.sub h.pg 7 (by decide) v h25 h4096 (spK_ok b k hk) (by rw [spK_len b k hk, hb]) hco).mono ?_
  rintro e w' ⟨P', F', G', l', hG, hN, hr⟩
  have hne : (needN (v.size : Int) (G.size : Int)).toNat = ndK v.size := by
    rw [hs, show ((256 : Nat) : Int) = 256 from rfl, ndK_need _ (by omega)]; rfl
  rw [hne, takeA_K _ b k hk] at hr
  rcases hr with ⟨ids, h1, h2, h3, rfl, rfl⟩ | ⟨a, f, h1, rfl, rfl, h4, rfl, h6⟩
  · by_cases hc : k + 2 + ndK v.size ≤ b
    · rw [if_pos hc] at h1
      injection h1 with h1
      injection h1 with h5 h6
      subst h5 h6
      refine .inl ⟨P', F', hc, ?_, ?_⟩
      · rw [idsK_at, if_pos (by unfold ndK; omega), Nat.zero_add]
      · rw [hs, idsK_len] at hG
        exact h.step hN hG
    · rw [if_neg hc] at h1
      cases h1
  · by_cases hc : k + 2 + ndK v.size ≤ b
    · rw [if_pos hc] at h1
      cases h1
    · refine .inr ⟨P', F', a, f, by omega, rfl, h.step hN hG, fun id hid => ?_, h6⟩
      have := h4 id hid
      rw [spK_get b k id hk] at this
      by_cases q : id < 2
      · rw [if_pos q] at this; simp at this
      · rw [if_neg q] at this
        by_cases q2 : id < k + 2
        · rw [if_pos q2] at this; simp at this
        · omega
/-- Read, in a law, of what is known. -/
def LsRead (ad : Nat → Addr) (w0 : World) (B c s : Nat) (G : GA) (l : List Nat) (v : ByteArray) (e : Ending) (w' : World) : Prop :=
  ∃ P' F', e = .returned (.tuple #[.string v, .nilIface]) ∧ LS ad w0 w' B c s P' F' G l
theorem lsRead {k : Nat} (h : LS ad w0 w B c s P F G l) (hs : G.size = 256) (hb : G.blocks ≤ 256) (v : ByteArray) (hH : Holds G 7 v.data.toList k (ndK v.size)) (hk : k + 2 + ndK v.size ≤ G.blocks) (h25 : 25 ≤ v.size) (h4096 : v.size ≤ 4096) (id n : Nat) (hid : id = k + 2) (hn : n = v.size) :
    Calls Tryz.prog 178 #[pgV c s 7, .int .i64 (id : Int), .int .i64 (n : Int)] w (LsRead ad w0 B c s G l v) := by
  subst hn hid
  have hl : v.data.toList.length = v.size := size_toList v
  have hf : Fit v.data.toList.length 228 (ndK v.size) := by rw [hl]; exact ndK_fit _ (by omega)
  obtain ⟨w1, w2⟩ := walk_all hf (by omega) hk hb hH
  have hz := chErr_holds hf (by omega) hk hb hH (by omega) (by omega)
  rw [hl] at w1 w2 hz
  refine (chRead_any h.env h.sub h.pg 7 ((k + 2 : Nat) : Int) (v.size : Int) (by omega) (fun _ _ => by rw [Int.toNat_natCast]; exact w2)).mono ?_
  rintro e w' ⟨P', F', hG, hN, ⟨_, rfl⟩ | ⟨er, f, he, _⟩⟩
  · refine ⟨P', F', ?_, h.step hN hG⟩
    rw [Int.toNat_natCast, w1]
    simp only [List.flatMap_map]
    rw [show (List.range' 0 (ndK v.size)).flatMap (fun x => pieceB v.data.toList 228 x) = v.data.toList from pieces_all _ _ _ (by rw [hl]; exact (ndK_fit _ (by omega)).hi)]
  · rw [hz] at he; cases he
end
end Go.Proofs.YtpjpldedebddgaaGreatDoor
namespace Go.Proofs.YtpjpldedebddgaaGreatDoor
open Go.RowKit
/-- '[]byte(s)'. -/
theorem conv_bytes {P : Program} {src dst e : TypeId} (hs : P.underlying src = some .string) (hd : P.underlying dst = some (.slice e)) (he : P.underlying e = some (.int .u8)) (w : World) (s : ByteArray) (z : Nat) (hz : z = s.size) (hl : s.size ≤ 1000000) :
    ∃ cap w', (convert src dst (.string s)).run P w = .ok (.slice (some ⟨w.heap.size, 0, none⟩) z cap) w' ∧ Ext w w' ∧ Sl (fun _ => False) w' 1 encB (.slice (some ⟨w.heap.size, 0, none⟩) z cap) s.data.toList := by
  subst hz
  refine ⟨_, _, run_bytes_of_string w src dst e s hs hd he, ((Mods.refl _ w).drew).alloc _, _, _, by rw [size_toList], ?_, ?_, by rw [size_toList]; omega, ?_⟩
  · rw [size_toList]; exact grownCap_ge w _ 0 e
  · exact grownCap_le_maxLen w _ 0 e (by unfold maxLen; omega)
  · refine .inr ⟨w.heap.size, 0, rfl, by simp, fun f => f, fun i x hx j u hu => ?_⟩
    have hil := (List.getElem?_eq_some_iff.1 hx).1
    rw [size_toList] at hil
    match j, hu with
    | 0, hu =>
      simp only [encB, List.getElem?_cons_zero, Option.some.injEq] at hu
      subst hu
      refine (cells_of_block (b := w.heap.size) (heap_alloc_new w.drew _) _).trans ?_
      simp only [Nat.zero_add, Nat.mul_one, Nat.add_zero]
      unfold bytesRow
      rw [Array.getElem?_append_left (by rw [Array.size_map]; exact hil), Array.getElem?_map]
      have h1 : s.data[i]? = some x := by rw [← Array.getElem?_toList]; exact hx
      rw [h1]
      rfl
    | j + 1, hu => simp [encB] at hu
end Go.Proofs.YtpjpldedebddgaaGreatDoor
namespace Go.Proofs.YtpjpldedebddgaaGreatDoor
open Go.RowKit
section
variable {P P' F F' : Nat → Prop} {ad : Nat → Addr} {w w' : World} {c s : Nat} {G G' : GA} {l l' : List Nat}
theorem pgDiskFlush (hL : Env F ad w) (hP : ∀ k, P k → F k) (h : PgR F w P c s G l) :
    ∃ d, (Calls Tryz.prog 52 #[.pointer (some ⟨c, 0, none⟩)] w fun e w' => e = .returned (.pointer (some ⟨d, 0, none⟩)) ∧ w = w') ∧
      (∀ w1, Ext w w1 → Calls Tryz.prog 53 #[.pointer (some ⟨d, 0, none⟩)] w1 (PgDone F P ad w1 c s G.flushD l (fun _ _ e => e = .returned .nilIface))) := by
  obtain ⟨d, sb, bvs, Pd, b2, C, h1, h2, h3, h4, h5, h6, h7⟩ := h
  refine ⟨d, caDisk_any h1, fun w1 m => ?_⟩
  have hL1 := hL.mods (m.ext (F := F))
  have k1 := h1.at m
  have k5 := h5.mods m (fun f => f) (fun f => f)
  obtain ⟨bl, gs, ws, wv, kv, g1, g2⟩ := k1.disk
  refine (dkFlush_ok hL1 (fun k hk => hP k ((h6 k).2 (.inl (.inl hk)))) g1 g2 h2.off h2.lit).mono ?_
  rintro e w2 ⟨Pd', F2, rfl, hD, n⟩
  have hPF : ∀ k, caF c sb Pd k → F k := fun k hk => hP k ((h6 k).2 (.inl hk))
  have kC := k1.disk' hPF n hD
  obtain ⟨q1, q2⟩ := rel_flushD h2 (waits h1) h3
  have nA := n.part (Q := fun k => k = c ∨ k = sb) (fun k hk => hPF k (.inr hk)) hL1
  obtain ⟨P2, r1, r2⟩ := PgR.step (C' := flushDC C) hL1 hP k5 h6 h7 kC q1 q2 h4 nA
  exact ⟨P2, F2, r1, r2, rfl⟩
/-- what is known behind a burst. -/
def GA.turned (G : GA) (id bit mask : Nat) : GA := { G with view := fun i => openO (upd G.look id ((G.last id).map fun b => corruptB b bit mask) i) i, look := upd G.look id ((G.last id).map fun b => corruptB b bit mask), last := upd G.last id ((G.last id).map fun b => corruptB b bit mask) }
theorem rel_turned {C : CaA} {G : GA} (h : CaInv C) (k : CaRel C G) (id bit mask : Nat) (hid : id < G.blocks) :
    CaInv ⟨{ C.disk with lasting := C.disk.lasting.set id (corruptB (C.disk.lasting.getD id []) bit mask) }, List.replicate C.slots.length slot0, 0⟩ ∧
    ((G.last id).isSome = true → CaRel ⟨{ C.disk with lasting := C.disk.lasting.set id (corruptB (C.disk.lasting.getD id []) bit mask) }, List.replicate C.slots.length slot0, 0⟩ (G.turned id bit mask)) := by
  have hid2 : id < C.disk.lasting.length := by rw [h.lenL, k.blocks]; exact hid
  have hne : ∀ i, i ≠ id → DiskA.look { C.disk with lasting := C.disk.lasting.set id (corruptB (C.disk.lasting.getD id []) bit mask) } i = C.disk.look i := fun i hi => by
    unfold DiskA.look
    simp only [List.getD]
    rw [List.getElem?_set_ne (fun e => hi e.symm)]
  have hlen : ∀ i, i < C.disk.blocks → (DiskA.look { C.disk with lasting := C.disk.lasting.set id (corruptB (C.disk.lasting.getD id []) bit mask) } i).length = C.disk.size := fun i hi => by
    by_cases e : i = id
    · subst e
      have h1 := h.len i hi
      unfold DiskA.look at h1 ⊢
      simp only at h1 ⊢
      cases hw : lookW i C.disk.waiting with
      | some b => rw [hw] at h1; exact h1
      | none =>
        rw [hw] at h1
        simp only [Option.getD_none] at h1 ⊢
        simp only [List.getD, List.getElem?_set_self hid2, Option.getD_some]
        rw [corruptB_length]
        exact h1
    · rw [hne i e]; exact h.len i hi
  refine ⟨inv_empty _ _ h.n3 h.n64 h.s256 h.s1024 h.b8 h.b256 (by rw [List.length_set]; exact h.lenL) hlen h.off h.lit, fun hs => ?_⟩
  obtain ⟨b0, hb0⟩ := Option.isSome_iff_exists.1 hs
  obtain ⟨l1, l2, _⟩ := k.last id b0 hb0
  have hat : DiskA.look { C.disk with lasting := C.disk.lasting.set id (corruptB (C.disk.lasting.getD id []) bit mask) } id = corruptB b0 bit mask := by
    unfold DiskA.look
    simp only
    rw [lookW_none id _ l2]
    simp only [Option.getD_none, List.getD, List.getElem?_set_self hid2, Option.getD_some]
    congr 1
  have hlook : ∀ i b, (G.turned id bit mask).look i = some b → DiskA.look { C.disk with lasting := C.disk.lasting.set id (corruptB (C.disk.lasting.getD id []) bit mask) } i = b := fun i b hb => by
    have hb' : upd G.look id ((G.last id).map fun b => corruptB b bit mask) i = some b := hb
    by_cases e : i = id
    · subst e
      rw [upd_self, hb0, Option.map_some] at hb'
      replace hb' := Option.some.inj hb'
      rw [hat]; exact hb'
    · rw [upd_ne _ _ e] at hb'
      rw [hne i e]; exact (k.look i b hb').1
  refine rel_empty _ _ _ k.blocks k.size (fun i r hr => ?_) hlook (fun i b hb => ?_) ?_
  · have hr' : openO (upd G.look id ((G.last id).map fun b => corruptB b bit mask) i) i = some r := hr
    unfold openO at hr'
    obtain ⟨b, hb, hr'⟩ := Option.map_eq_some_iff.1 hr'
    rw [hlook i b hb, hr']
  · have hb' : upd G.last id ((G.last id).map fun b => corruptB b bit mask) i = some b := hb
    by_cases e : i = id
    · subst e
      rw [upd_self, hb0, Option.map_some] at hb'
      replace hb' := Option.some.inj hb'
      refine ⟨?_, l2⟩
      simp only [List.getD, List.getElem?_set_self hid2, Option.getD_some]
      rw [← hb', ← l1]
      rfl
    · rw [upd_ne _ _ e] at hb'
      obtain ⟨k1, k2, _⟩ := k.last i b hb'
      refine ⟨?_, k2⟩
      rw [← k1]
      simp only [List.getD]
      rw [List.getElem?_set_ne (fun e' => e e'.symm)]
  · have := k.cost
    unfold CaA.cost at this
    show _ ≤ G.cost
    simp only
    omega
end
end Go.Proofs.YtpjpldedebddgaaGreatDoor
namespace Go.Proofs.YtpjpldedebddgaaGreatDoor
open Go.RowKit
section
variable {P P' F F' : Nat → Prop} {ad : Nat → Addr} {w w' : World} {c s : Nat}
theorem ready_ok (op : ByteArray) (gen : Nat) : Calls Tryz.prog 100 #[.string op, pgV c s gen] w fun e w' => e = .returned .nilIface ∧ Ext w w' := by
  unfold pgV
  have m0 : Ext w (w.alloc (.cells #[.pointer (some ⟨c, 0, none⟩), .pointer (some ⟨s, 0, none⟩), .int .u64 (gen : Int)] 48)) := (Mods.refl _ w).alloc _
  have M0 := Lib.hid m0
  clear m0
  go_enter Tryz.func100, Tryz.ntmps100
  go_wp2_with fail
  go_ret
  exact ⟨rfl, M0.out⟩
/-- a pager without a cache. -/
theorem ready_nil (hL : Env F ad w) (op : ByteArray) (sp : Option Addr) (gen : Nat) : Calls Tryz.prog 100 #[.string op, .agg #[.pointer none, .pointer sp, .int .u64 (gen : Int)]] w fun e w' => ∃ f, e = .returned (faultV f) ∧ ErrC F ad w' (faultV f) [-1] 7 ∧ Ext w w' := by
  have m0 : Ext w (w.alloc (.cells #[.pointer none, .pointer sp, .int .u64 (gen : Int)] 48)) := (Mods.refl _ w).alloc _
  have hL0 := hL.mods m0.ext
  have g2 := hL.c7
  have hsz := hL.size
  have g2' : 0 < w.heap.size := by omega
  have HL := Lib.hid hL0
  have M0 := Lib.hid m0
  clear hL hL0 m0
  go_enter Tryz.func100, Tryz.ntmps100
  go_wp2_with fail
  refine (new_any HL.out _ _ [] 7 (.sent 7 (by decide) (by decide))).mono ?_
  rintro e w1 ⟨f, rfl, hE, hm⟩
  have HE := Lib.hid hE
  have HM := Lib.hid hm
  clear hE hm
  go_wp2_with fail
  go_ret
  exact ⟨f, rfl, HE.out, M0.out.trans HM.out⟩
/-- why a key can't be looked for. -/
def lkCheck (key : ByteArray) : Option Err := if keyB key = true then none else some ([-1], 2)
theorem lkCheck_any (hL : Env F ad w) (op : ByteArray) (gen : Nat) (key : ByteArray) : Calls Tryz.prog 115 #[.string op, pgV c s gen, .string key] w fun e w' => ∃ ev, e = .returned ev ∧ ErrR F ad w' ev (lkCheck key) ∧ Ext w w' := by
  have HL := Lib.hid hL
  have hsz := hL.size
  have HZ := Lib.hid hsz
  clear hL hsz
  unfold pgV
  have HR := fun w' => ready_ok (c := c) (s := s) (w := w') op gen
  unfold pgV at HR
  cases hk : keyB key with
  | true =>
    have HK : Hid (lkCheck key = none) := Lib.hid (by unfold lkCheck; rw [if_pos hk])
    go_enter Tryz.func115, Tryz.ntmps115
    go_wp2_with fail
    refine (HR _).mono ?_
    rintro e w1 ⟨rfl, hm1⟩
    have HM1 := Lib.hid hm1
    clear hm1
    go_wp2_with fail
    refine (key_any key _).mono ?_
    rintro e w2 ⟨rfl, rfl⟩
    rw [hk]
    go_wp2_with fail
    go_ret
    exact ⟨_, rfl, by rw [HK.out]; rfl, by first | exact HM1.out | exact ((Mods.refl _ w).alloc _).trans HM1.out⟩
  | false =>
    have HK : Hid (lkCheck key = some ([-1], 2)) := Lib.hid (by unfold lkCheck; rw [hk]; rfl)
    go_enter Tryz.func115, Tryz.ntmps115
    go_wp2_with fail
    refine (HR _).mono ?_
    rintro e w1 ⟨rfl, hm1⟩
    have hE1 : Ext w w1 := by first | exact hm1 | exact ((Mods.refl _ w).alloc _).trans hm1
    have hL1 := HL.out.mods hE1.ext
    have g2 := hL1.c2
    have hz1 := hL1.size
    have HM1 := Lib.hid hE1
    have HL1 := Lib.hid hL1
    clear hm1 hE1 hL1
    go_wp2_with fail
    refine (key_any key _).mono ?_
    rintro e w2 ⟨rfl, rfl⟩
    rw [hk]
    go_wp2_with fail
    refine (new_any HL1.out _ _ [] 2 (.sent 2 (by decide) (by decide))).mono ?_
    rintro e w3 ⟨f, rfl, hE, hm⟩
    have HE := Lib.hid hE
    have HM := Lib.hid hm
    clear hE hm
    go_wp2_with fail
    go_ret
    exact ⟨_, rfl, by rw [HK.out]; exact ⟨f, rfl, HE.out⟩, HM1.out.trans HM.out⟩
end
end Go.Proofs.YtpjpldedebddgaaGreatDoor
