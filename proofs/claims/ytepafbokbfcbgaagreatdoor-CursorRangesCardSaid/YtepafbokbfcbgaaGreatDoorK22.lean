/- The reference's pairs of any pairs; the law's, with short values. Plain. | node.writer: num, text. | (*node.reader).num, text. | What a page that is seen is like: its Id, how many bytes. | ref03.Right, Fits, Put. | The reference's tree takes each of its pages once; kids stand ahead of what is over them. Plain. -/
import Derived.Test.YtepafbokbfcbgaaGreatDoorK03
import Derived.Test.YtepafbokbfcbgaaGreatDoorK21
import Derived.Test.YtepafbokbfcbgaaGreatDoorK18
import Derived.Test.YtepafbokbfcbgaaGreatDoorK08
import Derived.Test.YtepafbokbfcbgaaGreatDoorK14
import Derived.Test.YtepafbokbfcbgaaGreatDoorK17
import Derived.Test.YtepafbokbfcbgaaGreatDoorK19
import Derived.Test.YtepafbokbfcbgaaGreatDoorK07
namespace Go.Proofs.YtepafbokbfcbgaaGreatDoor
open Go.RowKit
/-- the empty text. -/
abbrev e0 : ByteArray := ⟨#[]⟩
def addP (acc : List PairS) (x : PairS) : List PairS := if keyB x.1 = true ∧ x.2.size ≤ 4096 then withP x.1 x.2 false acc else acc
def pairsP (l : List PairS) : List PairS := l.foldl addP []
theorem pairsP_snoc (l : List PairS) (x : PairS) : pairsP (l ++ [x]) = addP (pairsP l) x := by
  unfold pairsP; rw [List.foldl_append]; rfl
theorem withP_len (key value : ByteArray) (over : Bool) : ∀ l : List PairS, (withP key value over l).length ≤ l.length + 1
  | [] => by simp [withP]
  | x :: l => by
    have := withP_len key value over l
    unfold withP
    split
    · simp only [List.length_cons]; omega
    · split
      · split <;> simp
      · simp
theorem addP_ok {acc : List PairS} {x : PairS} (h1 : SortedP acc) (h2 : PairsOk acc) : SortedP (addP acc x) ∧ PairsOk (addP acc x) ∧ (addP acc x).length ≤ acc.length + 1 := by
  unfold addP
  split
  · rename_i hc
    refine ⟨sorted_withP h1, fun y hy => ?_, withP_len _ _ _ _⟩
    rcases mem_withP hy with rfl | hy
    · exact hc
    · exact h2 y hy
  · exact ⟨h1, h2, by omega⟩
theorem foldP_ok : ∀ (l acc : List PairS), SortedP acc → PairsOk acc → SortedP (l.foldl addP acc) ∧ PairsOk (l.foldl addP acc) ∧ (l.foldl addP acc).length ≤ acc.length + l.length
  | [], acc, h1, h2 => ⟨h1, h2, by simp⟩
  | x :: l, acc, h1, h2 => by
    obtain ⟨k1, k2, k3⟩ := addP_ok (x := x) h1 h2
    obtain ⟨j1, j2, j3⟩ := foldP_ok l (addP acc x) k1 k2
    exact ⟨j1, j2, by simp only [List.length_cons] at j3 ⊢; rw [List.foldl_cons]; omega⟩
theorem pairsP_ok (l : List PairS) : SortedP (pairsP l) ∧ PairsOk (pairsP l) ∧ (pairsP l).length ≤ l.length := by
  obtain ⟨h1, h2, h3⟩ := foldP_ok l [] List.Pairwise.nil (fun x h => by simp at h)
  exact ⟨h1, h2, by simpa [pairsP] using h3⟩
/-- a text's first n bytes. -/
def cutS (n : Nat) (v : ByteArray) : ByteArray := v.extract 0 (min v.size n)
theorem cutS_size (n : Nat) (v : ByteArray) : (cutS n v).size = min v.size n := by unfold cutS; rw [ByteArray.size_extract]; omega
theorem extract_all (v : ByteArray) : v.extract 0 v.size = v := by
  apply ByteArray.ext
  simp [ByteArray.extract, ByteArray.copySlice]
def cutP (n : Nat) (l : List PairS) : List PairS := l.map fun x => (x.1, cutS n x.2)
theorem cutP_ok {n : Nat} {l : List PairS} (h1 : SortedP l) (h2 : PairsOk l) : SortedP (cutP n l) ∧ PairsOk (cutP n l) ∧ (cutP n l).length = l.length ∧ ∀ x ∈ cutP n l, x.2.size ≤ n := by
  refine ⟨?_, fun x hx => ?_, by simp [cutP], fun x hx => ?_⟩
  · unfold SortedP cutP
    rw [List.pairwise_map]
    exact h1
  · obtain ⟨y, hy, rfl⟩ := List.mem_map.1 hx
    have := h2 y hy
    exact ⟨this.1, by simp only; rw [cutS_size]; omega⟩
  · obtain ⟨y, hy, rfl⟩ := List.mem_map.1 hx
    simp only
    rw [cutS_size]; omega
/-- the law's pairs of a shape. -/
def tameP (n : Nat) (l : List PairS) : List PairS := cutP n (pairsP (l.take 24))
structure Tame (n : Nat) (l : List PairS) : Prop where
  sorted : SortedP l
  ok : PairsOk l
  len : l.length ≤ 24
  small : ∀ x ∈ l, x.2.size ≤ n
theorem tameP_ok (n : Nat) (l : List PairS) : Tame n (tameP n l) := by
  obtain ⟨h1, h2, h3⟩ := pairsP_ok (l.take 24)
  obtain ⟨k1, k2, k3, k4⟩ := cutP_ok (n := n) h1 h2
  exact ⟨k1, k2, by unfold tameP; rw [k3]; rw [List.length_take] at h3; omega, k4⟩
theorem Tame.few {l : List PairS} (h : Tame 300 l) (gen e k : Nat) (he : 1 ≤ e) (hk : 2 ≤ k) : 2 + (buildA gen e k l).1.length ≤ 98 := by
  have h1 := build_len gen e k he hk l
  have h2 := sum_small h.small
  have h3 := h.len
  omega
/-- a key is there at most once: its pair is found. -/
theorem find_mem {l : List PairS} (hs : SortedP l) {x : PairS} (hx : x ∈ l) : findP x.1 l = some x.2 := by
  induction l with
  | nil => simp at hx
  | cons y l ih =>
    have h2 := List.pairwise_cons.1 hs
    rw [findP_cons]
    rcases List.mem_cons.1 hx with rfl | hx
    · rw [if_pos rfl]
    · have := h2.1 x hx
      rw [if_neg (fun e => by rw [e, ltS_irrefl] at this; cases this)]
      exact ih h2.2 hx
end Go.Proofs.YtepafbokbfcbgaaGreatDoor
namespace Go.Proofs.YtepafbokbfcbgaaGreatDoor
open Go.RowKit
/-- append(v, s...), s a text. -/
theorem wpl_app_str {P : Program} {w : World} {t u e : TypeId} (T : ElT P t e (.int .u8 0) 1 1) (hu : P.underlying u = some .string)
    {ops : Array Oper} {rest : List Oper} {o : Oper} {a : Act} {Q : Exit → Act → World → Prop} (hgd : o.guard = none) (sx x : Operand)
    (ho : o.op = .call { callee := .builtin .append, args := #[sx, x], argTypes := #[t, u] })
    (base : Nat) (v : Value) (l : List UInt8) (s : ByteArray) (hv : a.eval sx = v) (hx : a.eval x = .string s) (hown : Own (fun _ => False) w base e 1 encB v l) (hb : l.length + s.size ≤ 140737488355328) (hbase : base ≤ w.heap.size)
    (h : ∀ a' c' w', Own (fun _ => False) w' base e 1 encB (.slice a' (l.length + s.size) c') (l ++ s.data.toList) → w.grownBy w' v.ownBlock → wpList P ops Q rest (a.put o.dst (.slice a' (l.length + s.size) c')) w') :
    wpList P ops Q (o :: rest) a w := by
  refine wpList_plain hgd fun K hK => ?_
  obtain ⟨i, hi, hz, hs1, hb1⟩ := info3 T.info
  obtain ⟨v', w', hr, h2, h3, _⟩ := Go.Lib.run_append_own_string (P := P) (w := w) base t u o.type e i T.under hu hi hz hs1 hb1 v l.length _ hown.1 s (by simp only [maxLen]; omega) hb hbase
  have hO : Own (fun _ => False) w' base e 1 encB v' (l ++ s.data.toList) := ⟨by
    rw [List.length_append, size_toList, List.flatMap_append, ← strCells_enc]; exact h2, fun _ _ f => f⟩
  obtain ⟨a', c', hvv, _⟩ := hO.form
  rw [List.length_append, size_toList] at hvv
  subst hvv
  unfold Oper.wp execOp
  simp only [ho, resolve, invoke, builtin, Sem.run_bind, Sem.run_pure, Result.andThen_ok, List.map_toArray, List.map_cons, List.map_nil, hv, hx, hr]
  exact hK _ _ (h a' c' w' hO h3)
/-- a writer without an error: its block, what it has written. -/
structure WrR (base : Nat) (w : World) (B : Nat) (l : List UInt8) : Prop where
  box : ∃ a c, Blk w B #[.slice a l.length c, .nilIface] 247 ∧ Own (fun _ => False) w base 5 1 encB (.slice a l.length c) l
  ge : base ≤ B
/-- blocks of other types, but the writer's, stay. -/
def WFr (B : Nat) (w w' : World) : Prop := ∀ (b : Nat) (c : Array Value) (t : TypeId), b ≠ B → t ≠ 5 → Blk w b c t → Blk w' b c t
theorem WFr.trans {B : Nat} {w w1 w2 : World} (h : WFr B w w1) (k : WFr B w1 w2) : WFr B w w2 := fun b c t h1 h2 h3 => k b c t h1 h2 (h b c t h1 h2 h3)
section
variable {F : Nat → Prop} {ad : Nat → Addr} {w w' : World} {base B : Nat} {l : List UInt8}
theorem Own.notB {e t : TypeId} {α : Type} {F : Nat → Prop} {enc : α → List Value} {sz : Nat} {v : Value} {x : List α} {B : Nat} {c : Array Value} (h : Own F w base e sz enc v x) (hB : Blk w B c t) (ht : t ≠ e) : ∀ g, v.ownBlock = some g → g ≠ B := by
  intro g hg he
  subst he
  rcases h.1.2 with ⟨rfl, _⟩ | ⟨g', cap, cur, rfl, hbg, hg', _⟩
  · simp [Value.ownBlock] at hg
  · simp [Value.ownBlock] at hg
    subst hg
    unfold Blk at hB
    rw [hg'] at hB
    injection hB with hB
    injection hB with h1 h2
    exact ht h2.symm
set_option maxRecDepth 100000 in
theorem wnum_any (hL : Env F ad w) (hF : ∀ k, F k → k < base) (h : WrR base w B l) (n W : Nat) (hW : W = 1 ∨ W = 2 ∨ W = 4) (hn : n < 256 ^ W) (hlen : l.length ≤ 100000) :
    Calls Tryz.prog 144 #[.pointer (some ⟨B, 0, none⟩), .int .i64 (n : Int), .int .i64 (W : Int)] w fun e w' => e = .returned (.tuple #[]) ∧ WrR base w' B (l ++ leB W n) ∧ Mods (fun k => base ≤ k) w w' ∧ WFr B w w' := by
  obtain ⟨⟨a, c, hB, hO⟩, hge⟩ := h
  have hn2 : n < 4294967296 := by
    rcases hW with rfl | rfl | rfl <;> simp at hn <;> omega
  have b0 := hB.cell (o := 0) (v := .slice a l.length c) rfl
  have b1 := hB.cell (o := 1) (v := .nilIface) rfl
  have HSL : Hid (Sl F w 1 encB (.slice a l.length c) l) := Lib.hid (Own.sl (F := F) ⟨hO.1, fun g hg f => by have := hO.lt g hg; have := hF g f; omega⟩ encB_ok.len (by omega))
  have HB := Lib.hid hB
  have HL := Lib.hid hL
  have HN := Lib.hid hn
  have HW := Lib.hid hW
  have HBL := Lib.hid hB.lt
  clear hB hO hL hF hn hW
  go_enter Tryz.func144, Tryz.ntmps144
  go_wp2_with fail
  refine (Put_any HL.out _ l HSL.out n W (by have := HW.out; omega) HN.out hlen).mono ?_
  rintro e w1 ⟨a1, c1, rfl, hO1, hm1⟩
  have hB1 := HB.out.ext hm1
  have f0 := hB1.frozen 0
  have f1 := hB1.frozen 1
  have z0 := hB1.cell (o := 0) rfl
  have z1 := hB1.cell (o := 1) rfl
  have HB1 := Lib.hid hB1
  have hsz := hm1.size
  have HM : Hid (Mods (fun k => base ≤ k) w ((w1.setCell ⟨B, 0, none⟩ (.slice a1 (l.length + W) c1)).setCell ⟨B, 1, none⟩ .nilIface)) := Lib.hid ((hm1.ext.setCell (p := ⟨B, 0, none⟩) (.inr hge) _).setCell (p := ⟨B, 1, none⟩) (.inr hge) _)
  have HO1 : Hid (Own (fun _ => False) ((w1.setCell ⟨B, 0, none⟩ (.slice a1 (l.length + W) c1)).setCell ⟨B, 1, none⟩ .nilIface) base 5 1 encB (.slice a1 (l.length + W) c1) (l ++ leB W n)) := Lib.hid (by
    have h1 : Own (fun _ => False) w1 base 5 1 encB (.slice a1 (l.length + W) c1) (l ++ leB W n) := Own.rebase ⟨hO1.1, fun _ _ f => f⟩ (by have := HBL.out; omega)
    exact h1.mods (((Mods.refl (fun k => k = B) w1).setCell (F := fun k => k = B) (p := ⟨B, 0, none⟩) (.inr rfl) _).setCell (F := fun k => k = B) (p := ⟨B, 1, none⟩) (.inr rfl) _) (fun g hg => Own.notB h1 hB1 (by decide) g hg))
  have HFR : Hid (WFr B w ((w1.setCell ⟨B, 0, none⟩ (.slice a1 (l.length + W) c1)).setCell ⟨B, 1, none⟩ .nilIface)) := Lib.hid (fun b c t h1 _ h3 => ((h3.ext hm1).set_other (p := ⟨B, 0, none⟩) h1 _).set_other (p := ⟨B, 1, none⟩) h1 _)
  clear hm1 hB1 hO1
  go_wp2_with fail
  go_end0
  exact ⟨rfl, ⟨⟨a1, c1, by rw [List.length_append, leB_length]; exact (HB1.out.set 0 _).set 1 _, by rw [List.length_append, leB_length]; exact HO1.out⟩, hge⟩, HM.out, HFR.out⟩
set_option maxRecDepth 100000 in
theorem wtext_any (hL : Env F ad w) (hF : ∀ k, F k → k < base) (h : WrR base w B l) (s : ByteArray) (hs : s.size < 256) (hlen : l.length ≤ 100000) :
    Calls Tryz.prog 145 #[.pointer (some ⟨B, 0, none⟩), .string s] w fun e w' => e = .returned (.tuple #[]) ∧ WrR base w' B (l ++ bytesT s) ∧ Mods (fun k => base ≤ k) w w' ∧ WFr B w w' := by
  have HL := Lib.hid hL
  have HF := Lib.hid hF
  have HH := Lib.hid h
  have HW0 := Lib.hid h.box
  clear hL hF h
  go_enter Tryz.func145, Tryz.ntmps145
  go_wp2_with fail
  refine (wnum_any HL.out HF.out HH.out s.size 1 (.inl rfl) (by simpa using hs) hlen).mono ?_
  rintro e w1 ⟨rfl, hR, hm, hfr⟩
  have HFR := Lib.hid hfr
  clear hfr
  obtain ⟨⟨a, c, hB, hO⟩, hge⟩ := hR
  have hbb := hB.lt
  have hll : (l ++ leB 1 s.size).length = l.length + 1 := by rw [List.length_append, leB_length]
  have HB := Lib.hid hB
  have HO := Lib.hid hO
  have HM := Lib.hid hm
  have HLL := Lib.hid hll
  generalize hq : l ++ leB 1 s.size = q at *
  have HQ := Lib.hid hq
  clear hB hO hm hll hq
  have b0 := HB.out.cell (o := 0) (v := .slice a q.length c) rfl
  have f0 := HB.out.frozen 0
  go_wp2_with (at_builtin; refine wpl_app_str Tryz.elB Tryz.underlying9 rfl _ _ rfl base _ q s rfl rfl HO.out (by rw [HLL.out]; omega) (by omega) ?_; intro a2 c2 w2 hO2 hg2; have hgm := Mods.of_grown hg2; have hB2 : Blk w2 B #[.slice a q.length c, .nilIface] 247 := HB.out.mods hgm (fun e => Own.notB HO.out HB.out (by decide) B e rfl); have z0 := hB2.cell (o := 0) (v := .slice a q.length c) rfl; have zf := hB2.frozen 0)
  have HB2 := Lib.hid hB2
  have HM2 : Hid (Mods (fun k => base ≤ k) w (w2.setCell ⟨B, 0, none⟩ (.slice a2 (q.length + s.size) c2))) := Lib.hid (((HM.out.trans (hgm.mono (fun k hk => (HO.out.lt k hk).1)))).setCell (p := ⟨B, 0, none⟩) (.inr hge) _)
  have HO2 : Hid (Own (fun _ => False) (w2.setCell ⟨B, 0, none⟩ (.slice a2 (q.length + s.size) c2)) base 5 1 encB (.slice a2 (q.length + s.size) c2) (q ++ s.data.toList)) := Lib.hid
    (hO2.mods ((Mods.refl _ w2).setCell (F := fun k => k = B) (p := ⟨B, 0, none⟩) (.inr rfl) _) (fun g hg => Own.notB hO2 hB2 (by decide) g hg))
  have HFR2 : Hid (WFr B w (w2.setCell ⟨B, 0, none⟩ (.slice a2 (q.length + s.size) c2))) := Lib.hid (fun b c t h1 h2 h3 => ((HFR.out b c t h1 h2 h3).mods hgm (fun e => Own.notB HO.out (HFR.out b c t h1 h2 h3) h2 b e rfl)).set_other (p := ⟨B, 0, none⟩) h1 _)
  clear hB2 hO2 hg2 hgm
  go_end0
  have e1 : l ++ bytesT s = q ++ s.data.toList := by rw [← HQ.out]; unfold bytesT; rw [List.append_assoc]
  have e2 : (q ++ s.data.toList).length = q.length + s.size := by rw [List.length_append, size_toList]
  exact ⟨rfl, ⟨⟨a2, c2, by rw [e1, e2]; exact HB2.out.set 0 _, by rw [e1, e2]; exact HO2.out⟩, hge⟩, HM2.out, HFR2.out⟩
end
end Go.Proofs.YtepafbokbfcbgaaGreatDoor
namespace Go.Proofs.YtepafbokbfcbgaaGreatDoor
open Go.RowKit
/-- a reader: its block, what it reads, where it stands. -/
structure RdR (F : Nat → Prop) (w : World) (B : Nat) (bv : Value) (b : List UInt8) (r : RdA) : Prop where
  own : Blk w B #[bv, .int .i64 r.at_, .bool r.bad] 220
  sl : Sl F w 1 encB bv b
  mem : F B
section
variable {F : Nat → Prop} {ad : Nat → Addr} {w w' : World} {B : Nat} {bv : Value} {b : List UInt8} {r : RdA}
theorem takeF_small (b : List UInt8) (p : Int) (W : Nat) (hW : W = 1 ∨ W = 2 ∨ W = 4) : (takeF b p W).1 < 4294967296 := by
  unfold takeF
  split
  · simp
  · split
    · simp
    · have := ofLe_lt ((b.drop p.toNat).take W)
      have h2 : ((b.drop p.toNat).take W).length ≤ 4 := Nat.le_trans (List.length_take_le _ _) (by omega)
      have h3 : (256 : Nat) ^ ((b.drop p.toNat).take W).length ≤ 256 ^ 4 := Nat.pow_le_pow_right (by omega) h2
      simp only
      omega
theorem RdR.ext (h : RdR F w B bv b r) (m : Ext w w') : RdR F w' B bv b r := ⟨h.own.ext m, h.sl.ext m, h.mem⟩
theorem RdR.turn (h : RdR F w B bv b r) (r' : RdA) (m : Mods (fun k => k = B) w w') (hB : Blk w' B #[bv, .int .i64 r'.at_, .bool r'.bad] 220) : RdR F w' B bv b r' :=
  ⟨hB, h.sl.mods (m.mono (fun k e => by subst e; exact h.mem)), h.mem⟩
set_option maxRecDepth 100000 in
theorem rdNum_any (hL : Env F ad w) (h : RdR F w B bv b r) (W : Nat) (hW : W = 1 ∨ W = 2 ∨ W = 4) (h0 : 0 ≤ r.at_) (h1 : r.at_ ≤ 1000000000000) :
    Calls Tryz.prog 130 #[.pointer (some ⟨B, 0, none⟩), .int .i64 (W : Int)] w fun e w' => e = .returned (.int .i64 ((rdNum b r W).1 : Nat)) ∧ RdR F w' B bv b (rdNum b r W).2 ∧ Mods (fun k => k = B) w w' := by
  obtain ⟨a, bd⟩ := r
  simp only at h0 h1
  have hsm := takeF_small b a W hW
  obtain ⟨sa, cap, rfl, hz, _, _, _⟩ := _root_.id h.sl
  obtain ⟨n, hn⟩ : ∃ n, n = (takeF b a W).1 := ⟨_, rfl⟩
  rw [← hn] at hsm
  have HN := Lib.hid hn
  have HH := Lib.hid h
  have HLd := Lib.hid (hL.mods (Mods.refl _ w).drew)
  have HSd := Lib.hid (h.sl.mods (Mods.refl _ w).drew)
  have HW := Lib.hid hW
  have hW4 : W ≤ 4 := by omega
  have c0 := h.own.cell (o := 0) (v := .slice sa b.length cap) rfl
  have c1 := h.own.cell (o := 1) (v := .int .i64 a) rfl
  have c2 := h.own.cell (o := 2) (v := .bool bd) rfl
  clear h hL hW hn
  go_enter Tryz.func130, Tryz.ntmps130
  go_wp2_with fail
  go_region_held3 (fun w' => w'.cell? ⟨B, 0, none⟩ = some (.slice sa b.length cap) ∧ w'.cell? ⟨B, 1, none⟩ = some (.int .i64 a))
    (first | (with_reducible exact ⟨x0, x1⟩) | go_keep)
    (first
      | (go_at_call 137; refine (Take_any HLd.out _ b HSd.out a W (by have := HW.out; omega)).mono ?_; rintro e w1 ⟨ev, rfl, hE, hm⟩; rw [← HN.out]; have x0 := cellE hm c0; have x1 := cellE hm c1))
  have x2 := cellE hm c2
  have HB := Lib.hid ((HH.out.own.drew).ext hm)
  have f1 := HB.out.frozen 1
  have f2 := HB.out.frozen 2
  have HM := Lib.hid (hm.ofDrew)
  have HM2 : Hid (∀ x : Bool, Mods (fun k => k = B) w ((w1.setCell ⟨B, 2, none⟩ (.bool x)).setCell ⟨B, 1, none⟩ (.int .i64 (a + W)))) :=
    Lib.hid fun x => HM.out.ext.trans ((Mods.at (fun k => k = B) w1 B 2 _ rfl).trans (Mods.at (fun k => k = B) _ B 1 _ rfl))
  clear c0 c1 c2 hm
  cases hT : (takeF b a W).2 with
  | none =>
    rw [hT] at hE
    cases hE
    have HR : Hid (rdNum b ⟨a, bd⟩ W = (n, ⟨a + W, bd⟩)) := Lib.hid (by unfold rdNum; simp only [hT, ← HN.out]; simp)
    clear hT
    cases bd
    all_goals
      go_wp2_with fail
      go_ret
      exact ⟨by rw [HR.out]; rfl, by rw [HR.out]; exact HH.out.turn _ (HM2.out _) ((HB.out.set 2 _).set 1 _), HM2.out _⟩
  | some er =>
    rw [hT] at hE
    obtain ⟨el, ek⟩ := er
    obtain ⟨f, rfl, hE⟩ := hE
    have HR : Hid (rdNum b ⟨a, bd⟩ W = (n, ⟨a + W, true⟩)) := Lib.hid (by unfold rdNum; simp only [hT, ← HN.out]; simp)
    clear hT hE
    cases bd
    all_goals
      go_wp2_with fail
      go_ret
      exact ⟨by rw [HR.out]; rfl, by rw [HR.out]; exact HH.out.turn _ (HM2.out _) ((HB.out.set 2 _).set 1 _), HM2.out _⟩
end
end Go.Proofs.YtepafbokbfcbgaaGreatDoor
namespace Go.Proofs.YtepafbokbfcbgaaGreatDoor
open Go.RowKit
theorem vw_ok {C : CaA} (hI : CaInv C) {id : Nat} (hid : id < C.disk.blocks) {p : PageA} (h : C.vw id = .inl p) : p.id = (id : Int) ∧ pgOk p C.disk.size := by
  unfold CaA.vw at h
  split at h
  · rename_i s hs
    injection h with h
    subst h
    have hm := List.mem_of_find?_eq_some hs
    have hh := List.find?_some hs
    obtain ⟨i, hi, e⟩ := List.getElem_of_mem hm
    have hi2 : C.slots[i]? = some s := by rw [← e]; exact List.getElem?_eq_getElem hi
    have hf : s.full = true ∧ s.page.id = (id : Int) := by
      cases hfl : s.full with
      | false => rw [not_has (.inl hfl)] at hh; cases hh
      | true =>
        by_cases e : s.page.id = (id : Int)
        · exact ⟨rfl, e⟩
        · rw [not_has (.inr e)] at hh; cases hh
    exact ⟨hf.2, (hI.page i s hi2 hf.1).2.2⟩
  · have hl := hI.len id hid
    unfold openAtP at h
    split at h
    · cases h
    · rename_i h1
      split at h
      · cases h
      · rename_i h2
        injection h with h
        subst h
        simp only [ne_eq, Decidable.not_not] at h2
        unfold openB at h1
        simp only [Bool.not_eq_false, Bool.and_eq_true, decide_eq_true_eq] at h1
        refine ⟨h2, ?_, readP_gen _⟩
        rw [← hl]
        exact h1.1
section
variable {P F : Nat → Prop} {ad : Nat → Addr} {w : World} {c s : Nat} {G : GA} {l : List Nat}
theorem PgR.page (h : PgR F w P c s G l) {id : Nat} (hid : id < G.blocks) {p : PageA} (hv : G.view id = some (.inl p)) : p.id = (id : Int) ∧ pgOk p G.size := by
  obtain ⟨d, sb, bvs, Pd, b2, C, h1, h2, h3, h4, h5, h6, h7⟩ := h
  have := vw_ok h2 (by rw [h3.blocks]; exact hid) (h3.view id _ hv)
  rw [h3.size] at this
  exact this
theorem PgR.got (h : PgR F w P c s G l) {id : Int} {p : PageA} (hv : G.get id = .inl p) : p.id = id ∧ pgOk p G.size ∧ p.body.length ≤ 1000 := by
  unfold GA.get at hv
  split at hv
  · cases hv
  · rename_i hc
    unfold GA.check at hc
    split at hc
    · cases hc
    · rename_i hr
      split at hv
      · rename_i q hq
        injection hv with hv
        subst hv
        obtain ⟨k1, k2⟩ := h.page (id := id.toNat) (by omega) hq
        have := (pgCheck_none k2.1).2.2.2.2.2
        have := h.lim
        exact ⟨by omega, k2, by omega⟩
      · cases hv
      · cases hv
end
end Go.Proofs.YtepafbokbfcbgaaGreatDoor
namespace Go.Proofs.YtepafbokbfcbgaaGreatDoor
open Go.RowKit
set_option maxRecDepth 100000 in
theorem Right03_any (W : Nat) (hw : W = 1 ∨ W = 2 ∨ W = 4 ∨ W = 8) (w : World) : Calls Tryz.prog 148 #[.int .i64 (W : Int)] w fun e w' => e = .returned (.bool true) ∧ w = w' := by
  rcases hw with rfl | rfl | rfl | rfl
  all_goals
    go_enter Tryz.func148, Tryz.ntmps148
    go_wp2_with fail
    go_ret
    exact ⟨rfl, rfl⟩
set_option maxRecDepth 100000 in
theorem Fits03_any (n W : Nat) (hw : W ≤ 8) (hn : n < 256 ^ W) (h64 : n < 18446744073709551616) (w : World) : Calls Tryz.prog 149 #[.int .u64 (n : Int), .int .i64 (W : Int)] w fun e w' => e = .returned (.bool true) ∧ Ext w w' := by
  have HN := Lib.hid hn
  clear hn
  go_enter Tryz.func149, Tryz.ntmps149
  go_wp2_with fail
  go_loopg [0, 5] W (fun q v0 v5 wr => ∃ (k m : Nat), k + q = W ∧ v0 = .int .u64 m ∧ v5 = .int .i64 k ∧ m < 18446744073709551616 ∧ Hid (m = n / 256 ^ k) ∧ Hid (Ext w wr))
  case atStart => exact ⟨0, n, by omega, rfl, rfl, h64, Lib.hid (by simp), Lib.hid (Mods.refl _ w)⟩
  case round =>
    obtain ⟨k, m, hk, rfl, rfl, hm, HQ, HM⟩ := hrel
    by_cases hltn : k < W
    · have hk8 : k < 8 := by omega
      go_wp2_with fail
      go_roundg (gk - 1)
      case measure => omega
      case rel => exact ⟨k + 1, m / 256, by omega, by go_num, by go_num, by omega, Lib.hid (by rw [HQ.out, Nat.div_div_eq_div_mul, Nat.pow_succ]), HM⟩
    · obtain rfl : k = W := by omega
      have hz : m = 0 := by rw [HQ.out]; exact Nat.div_eq_of_lt HN.out
      subst hz
      go_wp2_with fail
      go_ret
      exact ⟨rfl, HM.out⟩
end Go.Proofs.YtepafbokbfcbgaaGreatDoor
namespace Go.Proofs.YtepafbokbfcbgaaGreatDoor
open Go.RowKit
/-- an entry's pages. -/
def chI (e : EntryA) : List Nat := if e.chain = 0 then [] else List.range' e.chain.toNat (ndK e.size.toNat)
/-- a tree's pages, each node ahead of what is beneath it. -/
inductive TrI (ps : List PageA) (gen : Nat) : Nat → Nat → List Nat → Prop
  | leaf {id n} : nodeV ps id = some n → n.leaf = true → n.entries ≠ [] → (∀ e ∈ n.entries, e.chain ≠ 0 → ∃ v, chainV ps gen e.chain e.size v) → TrI ps gen id 1 (id :: n.entries.flatMap chI)
  | inner {id n d} {parts : List (List Nat)} : nodeV ps id = some n → n.leaf = false → parts.length = n.kids.length → (∀ (i : Nat) (k : Int) (p : List Nat), n.kids[i]? = some k → parts[i]? = some p → TrI ps gen k.toNat d p) → (∀ k ∈ n.kids, k < (id : Int)) → (∀ i ∈ parts.flatten, i < id) → TrI ps gen id (d + 1) (id :: parts.flatten)
theorem chunk_I (gen : Nat) : ∀ (c : List PairS) (id : Nat), 1 ≤ id → (chunkA gen c id).1.flatMap chI = List.range' id (c.map chN).sum
  | [], _, _ => rfl
  | x :: r, id, h => by
    rw [chunkA, List.flatMap_cons, chunk_I gen r (id + chN x) (by omega), List.map_cons, List.sum_cons]
    have : chI (entryA x id) = List.range' id (chN x) := by
      unfold chI entryA chN
      by_cases hv : x.2.size ≤ 24
      · simp [hv]
      · simp only [if_neg hv]
        rw [if_neg (by omega)]
        simp
    rw [this]
    exact List.range'_append_1
theorem leaf_node {gen : Nat} {c : List PairS} {pre post : List PageA} (hs : SortedP c) (hk : PairsOk c) (hc : c.length ≤ 65535) (hb : 2 + pre.length + (leafPages gen c (2 + pre.length)).length ≤ 256) :
    nodeV (pre ++ (leafPages gen c (2 + pre.length) ++ post)) (2 + pre.length) = some ⟨true, (chunkA gen c (2 + pre.length + 1)).1, [], []⟩ := by
  obtain ⟨n, hn⟩ : ∃ n : NodeA, n = ⟨true, (chunkA gen c (2 + pre.length + 1)).1, [], []⟩ := ⟨_, rfl⟩
  have hlen := leafPages_len gen c (2 + pre.length)
  have hpl := chunkA_pages gen c (2 + pre.length + 1)
  have hkeys := chunkA_keys gen c (2 + pre.length + 1)
  have hr : rightN n = true := by
    rw [hn]
    unfold rightN
    simp only [if_true, Bool.and_eq_true, decide_eq_true_eq]
    refine ⟨⟨⟨⟨chunk_right gen c _ hk (by omega) (by omega), rfl⟩, rfl⟩, ?_⟩, by rw [chunkA_len]; exact hc⟩
    rw [hkeys]
    refine pw_rising ?_
    rw [List.pairwise_map]
    exact hs
  have hp : pageAt (pre ++ (leafPages gen c (2 + pre.length) ++ post)) (2 + pre.length) = some ⟨3, ((2 + pre.length : Nat) : Int), gen, bytesN n⟩ := by
    have := pageAt_mid pre (leafPages gen c (2 + pre.length) ++ post) 0
    rw [Nat.add_zero] at this
    rw [this, hn]
    rfl
  rw [← hn]
  unfold nodeV
  rw [hp]
  simp only [if_true]
  exact (getN_iff true _ n).2 ⟨hr, by rw [hn], rfl⟩
theorem leaf_chains {gen : Nat} {c : List PairS} {pre post : List PageA} (hk : PairsOk c) : ∀ e ∈ (chunkA gen c (2 + pre.length + 1)).1, e.chain ≠ 0 → ∃ v, chainV (pre ++ (leafPages gen c (2 + pre.length) ++ post)) gen e.chain e.size v := by
  intro e he hc
  obtain ⟨i, hi, hie⟩ := List.getElem_of_mem he
  have hic : i < c.length := by rw [chunkA_len] at hi; exact hi
  have e1 : pre ++ (leafPages gen c (2 + pre.length) ++ post) = (pre ++ [⟨3, ((2 + pre.length : Nat) : Int), gen, bytesN ⟨true, (chunkA gen c (2 + pre.length + 1)).1, [], []⟩⟩]) ++ ((chunkA gen c (2 + pre.length + 1)).2 ++ post) := by
    unfold leafPages; simp
  have hl1 : (pre ++ [(⟨3, ((2 + pre.length : Nat) : Int), gen, bytesN ⟨true, (chunkA gen c (2 + pre.length + 1)).1, [], []⟩⟩ : PageA)]).length = pre.length + 1 := by simp
  have h1 := chunk_ok gen c (pre ++ [⟨3, ((2 + pre.length : Nat) : Int), gen, bytesN ⟨true, (chunkA gen c (2 + pre.length + 1)).1, [], []⟩⟩]) post (fun x hx => (hk x hx).2) i e c[i]
  rw [hl1, show 2 + (pre.length + 1) = 2 + pre.length + 1 by omega, ← e1] at h1
  have h2 := h1 (by rw [← hie]; exact List.getElem?_eq_getElem hi) (List.getElem?_eq_getElem hic)
  rcases h2.2 with h3 | h3
  · exact absurd h3.1 hc
  · exact ⟨_, h3.2⟩
/-- a level's trees. -/
structure LvI (ps : List PageA) (gen d : Nat) (lv : List (Nat × ByteArray)) (trees : List (List Nat)) : Prop where
  len : trees.length = lv.length
  tr : ∀ (i : Nat) (y : Nat × ByteArray) (t : List Nat), lv[i]? = some y → trees[i]? = some t → TrI ps gen y.1 d t
theorem LvI.nil (ps : List PageA) (gen d : Nat) : LvI ps gen d [] [] := ⟨rfl, fun i y t h => by simp at h⟩
theorem LvI.cons {ps : List PageA} {gen d : Nat} {lv : List (Nat × ByteArray)} {trees : List (List Nat)} (h : LvI ps gen d lv trees) {y : Nat × ByteArray} {t : List Nat} (h2 : TrI ps gen y.1 d t) : LvI ps gen d (y :: lv) (t :: trees) := by
  refine ⟨by simp [h.len], fun i z q hz hq => ?_⟩
  cases i with
  | zero => simp at hz hq; subst hz hq; exact h2
  | succ i => exact h.tr i z q (by simpa using hz) (by simpa using hq)
theorem at_take {α : Type} (k : Nat) (l : List α) (i : Nat) (a : α) (ha : (l.take k)[i]? = some a) : l[i]? = some a := by
  have := (List.getElem?_eq_some_iff.1 ha).1
  rw [List.length_take] at this
  rw [List.getElem?_take_of_lt (by omega)] at ha
  exact ha
theorem LvI.split {ps : List PageA} {gen d : Nat} {lv : List (Nat × ByteArray)} {trees : List (List Nat)} (h : LvI ps gen d lv trees) (k : Nat) : LvI ps gen d (lv.take k) (trees.take k) ∧ LvI ps gen d (lv.drop k) (trees.drop k) :=
  ⟨⟨by simp [h.len], fun i y t hy ht => h.tr i y t (at_take _ _ _ _ hy) (at_take _ _ _ _ ht)⟩,
    ⟨by simp [h.len], fun i y t hy ht => h.tr (k + i) y t (by rw [List.getElem?_drop] at hy; exact hy) (by rw [List.getElem?_drop] at ht; exact ht)⟩⟩
theorem leaves_I (gen many : Nat) (hm : 1 ≤ many) (hm2 : many ≤ 65535) (all : List PageA) : ∀ (f : Nat) (l : List PairS) (pre post : List PageA), l.length ≤ f → SortedP l → PairsOk l →
    all = pre ++ ((leavesA gen many f l (2 + pre.length)).2 ++ post) → 2 + pre.length + (leavesA gen many f l (2 + pre.length)).2.length ≤ 256 →
    ∃ trees, LvI all gen 1 (leavesA gen many f l (2 + pre.length)).1 trees ∧ trees.flatten = List.range' (2 + pre.length) (leavesA gen many f l (2 + pre.length)).2.length ∧ ∀ y ∈ (leavesA gen many f l (2 + pre.length)).1, y.1 < 2 + pre.length + (leavesA gen many f l (2 + pre.length)).2.length
  | 0, [], pre, post, _, _, _, _, _ => ⟨[], LvI.nil _ _ _, rfl, fun y hy => by simp [leavesA] at hy⟩
  | 0, _ :: _, _, _, h, _, _, _, _ => by simp at h
  | f + 1, [], pre, post, _, _, _, _, _ => ⟨[], LvI.nil _ _ _, rfl, fun y hy => by simp [leavesA] at hy⟩
  | f + 1, x :: l, pre, post, hf, hs, hk, he, hb => by
    obtain ⟨c, hc⟩ : ∃ c, c = (x :: l).take many := ⟨_, rfl⟩
    obtain ⟨r, hr⟩ : ∃ r, r = (x :: l).drop many := ⟨_, rfl⟩
    have hcr : c ++ r = x :: l := by rw [hc, hr, List.take_append_drop]
    have hs2 : SortedP (c ++ r) := by rw [hcr]; exact hs
    have hsc : SortedP c := (List.pairwise_append.1 hs2).1
    have hsr : SortedP r := (List.pairwise_append.1 hs2).2.1
    have hkc : PairsOk c := fun z hz => hk z (by rw [← hcr]; exact List.mem_append_left _ hz)
    have hkr : PairsOk r := fun z hz => hk z (by rw [← hcr]; exact List.mem_append_right _ hz)
    have hcl : c.length ≤ 65535 := by rw [hc, List.length_take]; omega
    have hc0 : c ≠ [] := by
      rw [hc]
      obtain ⟨q, rfl⟩ : ∃ q, many = q + 1 := ⟨many - 1, by omega⟩
      simp
    have hrl : r.length ≤ f := by
      rw [hr, List.length_drop, List.length_cons]
      simp at hf; omega
    obtain ⟨L, hL⟩ : ∃ L, L = leavesA gen many f r (2 + pre.length + (leafPages gen c (2 + pre.length)).length) := ⟨_, rfl⟩
    have hdef : leavesA gen many (f + 1) (x :: l) (2 + pre.length) = ((2 + pre.length, x.1) :: L.1, leafPages gen c (2 + pre.length) ++ L.2) := by
      rw [leavesA, hL, hc, hr]
    rw [hdef] at he hb ⊢
    simp only at he hb ⊢
    rw [List.length_append] at hb ⊢
    have hpl : (pre ++ leafPages gen c (2 + pre.length)).length = pre.length + (leafPages gen c (2 + pre.length)).length := List.length_append
    have ih := leaves_I gen many hm hm2 all f r (pre ++ leafPages gen c (2 + pre.length)) post hrl hsr hkr
    rw [hpl, show 2 + (pre.length + (leafPages gen c (2 + pre.length)).length) = 2 + pre.length + (leafPages gen c (2 + pre.length)).length by omega, ← hL] at ih
    obtain ⟨trees, h1, h2, h3⟩ := ih (by rw [he]; simp) (by omega)
    have e2 : all = pre ++ (leafPages gen c (2 + pre.length) ++ (L.2 ++ post)) := by rw [he]; simp
    have hlp := leafPages_len gen c (2 + pre.length)
    have hcp := chunkA_pages gen c (2 + pre.length + 1)
    have hn := leaf_node (gen := gen) (post := L.2 ++ post) hsc hkc hcl (by omega : 2 + pre.length + (leafPages gen c (2 + pre.length)).length ≤ 256)
    have hch := leaf_chains (gen := gen) (pre := pre) (post := L.2 ++ post) hkc
    rw [← e2] at hn hch
    have hlf : TrI all gen (2 + pre.length) 1 ((2 + pre.length) :: (chunkA gen c (2 + pre.length + 1)).1.flatMap chI) := by
      refine .leaf hn rfl ?_ hch
      intro e
      have := chunkA_len gen c (2 + pre.length + 1)
      have e' : (chunkA gen c (2 + pre.length + 1)).1 = [] := e
      rw [e'] at this
      exact hc0 (List.length_eq_zero_iff.1 this.symm)
    rw [chunk_I gen c _ (by omega)] at hlf
    refine ⟨_ :: trees, h1.cons hlf, ?_, fun y hy => ?_⟩
    · rw [List.flatten_cons, h2, hlp, hcp, show 1 + (c.map chN).sum + L.2.length = (1 + (c.map chN).sum) + L.2.length from rfl, ← List.range'_append_1, Nat.add_comm 1, List.range'_succ]
    · rcases List.mem_cons.1 hy with rfl | hy
      · show 2 + pre.length < _; omega
      · have := h3 y hy; omega
theorem over_right {V : Nat → Option NodeA} {R : Int → Int → Option ByteArray} {d : Nat} {c : List (Nat × ByteArray)} {parts : List (List PairS)} (h : LevelOk V R d 256 c parts) (hs : SortedP parts.flatten) (hk : PairsOk parts.flatten) (h2 : 2 ≤ c.length) (h256 : c.length ≤ 256) : rightN (overN c) = true := by
  have hmem : ∀ (i : Nat) (y : Nat × ByteArray), c[i]? = some y → ∃ x ∈ parts.flatten, x.1 = y.2 := fun i y hy => by
    have hi := (List.getElem?_eq_some_iff.1 hy).1
    have hip : i < parts.length := by rw [h.len]; exact hi
    obtain ⟨x, r, e, hx⟩ := h.head i y parts[i] hy (List.getElem?_eq_getElem hip)
    exact ⟨x, List.mem_flatten.2 ⟨parts[i], List.getElem_mem hip, by rw [e]; exact List.mem_cons_self⟩, hx⟩
  have hkey : ∀ s ∈ (overN c).keys, ∃ x ∈ parts.flatten, x.1 = s := fun s hsm => by
    obtain ⟨i, hi, e⟩ := List.getElem_of_mem hsm
    have := over_keys c i
    rw [List.getElem?_eq_getElem hi, e] at this
    obtain ⟨y, hy, hys⟩ := Option.map_eq_some_iff.1 this.symm
    obtain ⟨x, hx, hxy⟩ := hmem (i + 1) y hy
    exact ⟨x, hx, hxy.trans hys⟩
  unfold rightN
  rw [if_neg (by simp [overN])]
  simp only [Bool.and_eq_true, decide_eq_true_eq, List.all_eq_true]
  refine ⟨⟨⟨⟨⟨⟨⟨rfl, by simp [overN]; exact h2⟩, by simp [overN]; omega⟩, by simp [overN]; exact h256⟩, fun k hkm => ?_⟩, ?_⟩, fun s hsm => ?_⟩, pw_rising ?_⟩
  · obtain ⟨y, hy, rfl⟩ := List.mem_map.1 hkm
    have := h.ids y hy
    simp [kidB]; omega
  · show ((c.map fun y => (y.1 : Int))).Nodup
    have := h.nd
    rw [List.pairwise_map] at this
    refine List.pairwise_map.2 (this.imp (fun {a b} hab e => ?_))
    omega
  · obtain ⟨x, hx, rfl⟩ := hkey s hsm
    exact (hk x hx).1
  · refine List.pairwise_iff_getElem.2 (fun i j hi hj hij => ?_)
    have a1 := over_keys c i
    have a2 := over_keys c j
    rw [List.getElem?_eq_getElem hi] at a1
    rw [List.getElem?_eq_getElem hj] at a2
    obtain ⟨y, hy, hys⟩ := Option.map_eq_some_iff.1 a1.symm
    obtain ⟨z, hz, hzs⟩ := Option.map_eq_some_iff.1 a2.symm
    have hyl := (List.getElem?_eq_some_iff.1 hy).1
    have hip : i + 1 < parts.length := by rw [h.len]; exact hyl
    obtain ⟨x, r, e, hx⟩ := h.head (i + 1) y parts[i + 1] hy (List.getElem?_eq_getElem hip)
    have := heads_at h hs (i := i + 1) (j := j + 1) (by omega) (List.getElem?_eq_getElem hip) hz x (by rw [e]; exact List.mem_cons_self)
    rw [← hys, ← hzs, ← hx]
    exact this
theorem above_I (gen many : Nat) (hm : 2 ≤ many) (hm2 : many ≤ 200) {R : Int → Int → Option ByteArray} (all : List PageA) {d : Nat} : ∀ (f : Nat) (lv : List (Nat × ByteArray)) (parts : List (List PairS)) (trees : List (List Nat)) (pre post : List PageA), lv.length ≤ f → lv.length ≠ 1 → LevelOk (nodeV all) R d 256 lv parts → SortedP parts.flatten → PairsOk parts.flatten → LvI all gen d lv trees → (∀ y ∈ lv, y.1 < 2 + pre.length) → (∀ i ∈ trees.flatten, i < 2 + pre.length) →
    all = pre ++ ((aboveA gen many f lv (2 + pre.length)).2 ++ post) → 2 + pre.length + (aboveA gen many f lv (2 + pre.length)).2.length ≤ 256 →
    ∃ trees', LvI all gen (d + 1) (aboveA gen many f lv (2 + pre.length)).1 trees' ∧ (trees'.flatten).Perm (trees.flatten ++ List.range' (2 + pre.length) (aboveA gen many f lv (2 + pre.length)).2.length) ∧ (∀ y ∈ (aboveA gen many f lv (2 + pre.length)).1, y.1 < 2 + pre.length + (aboveA gen many f lv (2 + pre.length)).2.length)
  | 0, [], parts, trees, pre, post, _, _, _, _, _, ht, _, _, _, _ => by
    have : trees = [] := List.length_eq_zero_iff.1 (by rw [ht.len]; rfl)
    subst this
    exact ⟨[], LvI.nil _ _ _, by simp [aboveA], fun y hy => by simp [aboveA] at hy⟩
  | 0, _ :: _, _, _, _, _, h, _, _, _, _, _, _, _, _, _ => by simp at h
  | f + 1, [], parts, trees, pre, post, _, _, _, _, _, ht, _, _, _, _ => by
    have : trees = [] := List.length_eq_zero_iff.1 (by rw [ht.len]; rfl)
    subst this
    exact ⟨[], LvI.nil _ _ _, by simp [aboveA], fun y hy => by simp [aboveA] at hy⟩
  | f + 1, y :: l, parts, trees, pre, post, hf, h1, h, hs, hk, ht, hids, htf, he, hb => by
    have hn : 2 ≤ l.length + 1 := by
      have : (y :: l).length = l.length + 1 := rfl
      omega
    obtain ⟨g1, g2, g3, g4⟩ := grp_le many (l.length + 1) hm hn
    obtain ⟨k, hkk⟩ : ∃ k, k = grp many (l.length + 1) := ⟨_, rfl⟩
    rw [← hkk] at g1 g2 g3 g4
    obtain ⟨L, hL⟩ : ∃ L, L = aboveA gen many f ((y :: l).drop k) (2 + pre.length + 1) := ⟨_, rfl⟩
    have hdef : aboveA gen many (f + 1) (y :: l) (2 + pre.length) = ((2 + pre.length, y.2) :: L.1, innerPage gen ((y :: l).take k) (2 + pre.length) :: L.2) := by
      rw [aboveA, hL, hkk]
    rw [hdef] at he hb ⊢
    simp only [List.length_cons] at he hb ⊢
    obtain ⟨s1, s2⟩ := h.split k
    obtain ⟨t1, t2⟩ := ht.split k
    have hfl : (parts.take k).flatten ++ (parts.drop k).flatten = parts.flatten := by rw [← List.flatten_append, List.take_append_drop]
    have hft : (trees.take k).flatten ++ (trees.drop k).flatten = trees.flatten := by rw [← List.flatten_append, List.take_append_drop]
    have hs' : SortedP ((parts.take k).flatten ++ (parts.drop k).flatten) := by rw [hfl]; exact hs
    obtain ⟨u1, u2, _⟩ := List.pairwise_append.1 hs'
    have hk1 : PairsOk (parts.take k).flatten := fun z hz => hk z (by rw [← hfl]; exact List.mem_append_left _ hz)
    have hk2 : PairsOk (parts.drop k).flatten := fun z hz => hk z (by rw [← hfl]; exact List.mem_append_right _ hz)
    have hlen : ((y :: l).drop k).length = l.length + 1 - k := by rw [List.length_drop, List.length_cons]
    have hpl : (pre ++ [innerPage gen ((y :: l).take k) (2 + pre.length)]).length = pre.length + 1 := by simp
    have ih := above_I gen many hm hm2 (R := R) all (d := d) f ((y :: l).drop k) (parts.drop k) (trees.drop k) (pre ++ [innerPage gen ((y :: l).take k) (2 + pre.length)]) post (by rw [hlen]; simp at hf; omega) (by rw [hlen]; exact g4) s2 u2 hk2 t2
    rw [hpl, show 2 + (pre.length + 1) = 2 + pre.length + 1 by omega, ← hL] at ih
    obtain ⟨trees', p1, p2, p3⟩ := ih (fun z hz => by have := hids z (List.mem_of_mem_drop hz); omega) (fun i hi => by have := htf i (by rw [← hft]; exact List.mem_append_right _ hi); omega) (by rw [he]; simp) (by omega)
    have htl : ((y :: l).take k).length = k := by rw [List.length_take, List.length_cons]; omega
    have hpage : pageAt all (2 + pre.length) = some (innerPage gen ((y :: l).take k) (2 + pre.length)) := by
      have := pageAt_mid pre (innerPage gen ((y :: l).take k) (2 + pre.length) :: (L.2 ++ post)) 0
      rw [Nat.add_zero] at this
      rw [he]
      exact this
    have hr := over_right s1 u1 hk1 (by rw [htl]; exact g1) (by rw [htl]; omega)
    have hV : nodeV all (2 + pre.length) = some (overN ((y :: l).take k)) := by
      unfold nodeV
      rw [hpage]
      simp only [innerPage]
      exact (getN_iff false _ (overN ((y :: l).take k))).2 ⟨hr, rfl, rfl⟩
    have hnew : TrI all gen (2 + pre.length) (d + 1) ((2 + pre.length) :: (trees.take k).flatten) := by
      refine .inner hV rfl (by rw [t1.len]; simp [overN]) (fun i kk p hki hpi => ?_) (fun kk hkm => ?_) (fun i hi => htf i (by rw [← hft]; exact List.mem_append_left _ hi))
      · have hki2 : (((y :: l).take k).map fun y => (y.1 : Int))[i]? = some kk := hki
        rw [List.getElem?_map] at hki2
        obtain ⟨z, hz, rfl⟩ := Option.map_eq_some_iff.1 hki2
        rw [Int.toNat_natCast]
        exact t1.tr i z p hz hpi
      · obtain ⟨z, hz, rfl⟩ := List.mem_map.1 hkm
        have := hids z (List.mem_of_mem_take hz)
        omega
    refine ⟨_ :: trees', p1.cons hnew, ?_, fun z hz => ?_⟩
    · rw [List.flatten_cons, List.range'_succ, List.perm_iff_count]
      intro a
      have hc := p2.count_eq a
      have hc2 : (trees.flatten).count a = (trees.take k).flatten.count a + (trees.drop k).flatten.count a := by rw [← hft, List.count_append]
      simp only [List.count_append, List.count_cons, List.cons_append] at hc ⊢
      omega
    · rcases List.mem_cons.1 hz with rfl | hz
      · show 2 + pre.length < _; omega
      · have := p3 z hz; omega
theorem levels_I (gen kids : Nat) (hm : 2 ≤ kids) (hm2 : kids ≤ 200) {R : Int → Int → Option ByteArray} (all : List PageA) {l : List PairS} (hs : SortedP l) (hk : PairsOk l) (hall : 2 + all.length ≤ 256) : ∀ (f d : Nat) (lv : List (Nat × ByteArray)) (parts : List (List PairS)) (trees : List (List Nat)) (ps : List PageA), lv ≠ [] → lv.length ≤ 2 ^ (16 - d) → d ≤ 16 ∧ 16 ≤ d + f → LevelOk (nodeV all) R d 256 lv parts → parts.flatten = l → LvI all gen d lv trees → (∀ y ∈ lv, y.1 < 2 + ps.length) → (trees.flatten).Perm (List.range' 2 ps.length) →
    (levelsA gen kids f d lv ps).1 = all → ∃ pgs, TrI all gen (levelsA gen kids f d lv ps).2.1 (levelsA gen kids f d lv ps).2.2 pgs ∧ pgs.Perm (List.range' 2 all.length) := by
  have base : ∀ (d : Nat) (lv : List (Nat × ByteArray)) (trees : List (List Nat)), lv.length = 1 → LvI all gen d lv trees → (trees.flatten).Perm (List.range' 2 all.length) →
      ∃ pgs, TrI all gen (lv.headD (0, ⟨#[]⟩)).1 d pgs ∧ pgs.Perm (List.range' 2 all.length) := by
    intro d lv trees h1 h hp
    obtain ⟨y, rfl⟩ := List.length_eq_one_iff.1 h1
    obtain ⟨p, rfl⟩ := List.length_eq_one_iff.1 (h.len.trans h1)
    exact ⟨p, h.tr 0 y p rfl rfl, by simpa using hp⟩
  intro f
  induction f with
  | zero =>
    intro d lv parts trees ps h0 h1 hd h hp ht hids hperm he
    have hl1 : lv.length = 1 := by
      have : lv.length ≠ 0 := fun e => h0 (List.length_eq_zero_iff.1 e)
      have e : 16 - d = 0 := by omega
      rw [e] at h1; simp at h1; omega
    rw [levelsA] at he
    simp only at he
    subst he
    exact base d lv trees hl1 ht hperm
  | succ f ih =>
    intro d lv parts trees ps h0 h1 hd h hp ht hids hperm he
    rw [levelsA] at he ⊢
    by_cases hc : 1 < lv.length ∧ d < 16
    · rw [if_pos hc] at he ⊢
      obtain ⟨rest, hr⟩ := levels_pre gen kids f (d + 1) (aboveA gen kids lv.length lv (2 + ps.length)).1 (ps ++ (aboveA gen kids lv.length lv (2 + ps.length)).2)
      have he2 : all = ps ++ ((aboveA gen kids lv.length lv (2 + ps.length)).2 ++ rest) := by rw [← he, hr, List.append_assoc]
      have hlen : 2 + ps.length + (aboveA gen kids lv.length lv (2 + ps.length)).2.length ≤ 256 := by
        have : all.length = ps.length + ((aboveA gen kids lv.length lv (2 + ps.length)).2.length + rest.length) := by rw [he2, List.length_append, List.length_append]
        omega
      have hsp : SortedP parts.flatten := by rw [hp]; exact hs
      have hkp : PairsOk parts.flatten := by rw [hp]; exact hk
      obtain ⟨parts', q1, q2, q3, q4, q5⟩ := above_ok gen kids hm hm2 (R := R) all (d := d) lv.length lv parts ps rest (Nat.le_refl _) (by omega) h hsp hkp he2 hlen
      obtain ⟨trees', r1, r2, r3⟩ := above_I gen kids hm hm2 (R := R) all (d := d) lv.length lv parts trees ps rest (Nat.le_refl _) (by omega) h hsp hkp ht hids (fun i hi => by have := hperm.mem_iff.1 hi; rw [List.mem_range'_1] at this; omega) he2 hlen
      refine ih (d + 1) _ parts' trees' _ (q5 h0) ?_ (by omega) q1 (q2.trans hp) r1 (fun y hy => by have := r3 y hy; rw [List.length_append]; omega) ?_ he
      · have e : 16 - d = (16 - (d + 1)) + 1 := by omega
        rw [e, Nat.pow_succ] at h1; omega
      · refine r2.trans ?_
        rw [List.length_append, ← List.range'_append_1]
        exact hperm.append_right _
    · rw [if_neg hc] at he ⊢
      have hl1 : lv.length = 1 := by
        have hz : lv.length ≠ 0 := fun e => h0 (List.length_eq_zero_iff.1 e)
        by_cases h16 : d = 16
        · rw [h16] at h1; simp at h1; omega
        · omega
      simp only at he
      subst he
      exact base d lv trees hl1 ht hperm
/-- EACH PAGE OF THE TREE ONCE. -/
theorem build_I (gen entries kids : Nat) (he : 1 ≤ entries) (he2 : entries ≤ 65535) (hm : 2 ≤ kids) (hm2 : kids ≤ 200) {l : List PairS} (hs : SortedP l) (hk : PairsOk l) (h0 : l ≠ []) (hl : l.length ≤ 32768) (hall : 2 + (buildA gen entries kids l).1.length ≤ 256) {R : Int → Int → Option ByteArray} (hR : FitsR (buildA gen entries kids l).1 gen R) :
    ∃ pgs, TrI (buildA gen entries kids l).1 gen (buildA gen entries kids l).2.1 (buildA gen entries kids l).2.2 pgs ∧ pgs.Perm (List.range' 2 (buildA gen entries kids l).1.length) := by
  obtain ⟨all, ha⟩ : ∃ all, all = (buildA gen entries kids l).1 := ⟨_, rfl⟩
  rw [← ha] at hall hR ⊢
  unfold buildA at ha ⊢
  rw [if_neg h0] at ha ⊢
  simp only at ha ⊢
  obtain ⟨rest, hr⟩ := levels_pre gen kids 16 1 (leavesA gen entries l.length l 2).1 (leavesA gen entries l.length l 2).2
  have he3 : all = [] ++ ((leavesA gen entries l.length l (2 + ([] : List PageA).length)).2 ++ rest) := by rw [ha, hr]; simp
  have hlen : 2 + ([] : List PageA).length + (leavesA gen entries l.length l (2 + ([] : List PageA).length)).2.length ≤ 256 := by
    have : all.length = (leavesA gen entries l.length l 2).2.length + rest.length := by rw [ha, hr, List.length_append]
    simp; omega
  obtain ⟨parts, q1, q2, q3⟩ := leaves_ok gen entries he he2 (R := R) all hR l.length l [] rest (Nat.le_refl _) hs hk he3 hlen
  obtain ⟨trees, r1, r2, r3⟩ := leaves_I gen entries he he2 all l.length l [] rest (Nat.le_refl _) hs hk he3 hlen
  simp only [List.length_nil, Nat.add_zero] at q1 q3 r1 r2 r3
  have hne : (leavesA gen entries l.length l 2).1 ≠ [] := by
    intro e
    have h1 : parts = [] := List.length_eq_zero_iff.1 (by rw [q1.len, e]; rfl)
    rw [h1] at q2
    exact h0 q2.symm
  have hll : (leavesA gen entries l.length l 2).1.length ≤ 2 ^ 15 := by
    have := (leaves_len gen entries he l.length l 2 (Nat.le_refl _)).2
    have : (2 : Nat) ^ 15 = 32768 := rfl
    omega
  exact levels_I gen kids hm hm2 all hs hk hall 16 1 _ parts trees _ hne hll (by omega) q1 q2 r1 r3 (by rw [r2]) ha.symm
end Go.Proofs.YtepafbokbfcbgaaGreatDoor
