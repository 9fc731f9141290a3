/- chain.put. -/
import Derived.Test.YtidjkcfjocppmaaDoorKChain2
namespace Go.Proofs.YtidjkcfjocppmaaDoor
open Go.RowKit
attribute [local go_sem ↓] Go.wp_at_zero Go.wp_at_succ

theorem strCells_enc (s : ByteArray) : Go.Lib.strCells s = s.data.toList.flatMap encB := by
  unfold Go.Lib.strCells
  induction s.data.toList with
  | nil => rfl
  | cons x l ih => rw [List.map_cons, List.flatMap_cons, ih]; rfl
theorem size_toList (s : ByteArray) : s.data.toList.length = s.size := by rw [Array.length_toList]; rfl
/-- append(v, s...), s a text, as a step of a region that draws. -/
theorem step_app_str {P : Program} {w : World} {t u e : TypeId} (T : ElT P t e (.int .u8 0) 1 1) (hu : P.underlying u = some .string)
    {ops : Array Oper} {o : Oper} {a : Act} {K : Act → World → Prop} {Q : Exit → Act → World → Prop} {X : Prop} (hgd : o.guard = none) (sx x : Operand)
    (ho : o.op = .call { callee := .builtin .append, args := #[sx, x], argTypes := #[t, u] })
    (base : Nat) (v : Value) (l : List UInt8) (s : ByteArray) (hv : a.eval sx = v) (hx : a.eval x = .string s) (hown : Own (fun _ => False) w base e 1 encB v l) (hb : l.length + s.size ≤ 140737488355328) (hbase : base ≤ w.heap.size)
    (h : ∀ a' c' w', Own (fun _ => False) w' base e 1 encB (.slice a' (l.length + s.size) c') (l ++ s.data.toList) → w.grownBy w' v.ownBlock → K (a.put o.dst (.slice a' (l.length + s.size) c')) w') :
    if Region.wanted o (yielded ops a.tmps) = true then Oper.wp P o a w K Q else X := by
  have hw : Region.wanted o (yielded ops a.tmps) = true := by simp [Region.wanted, hgd]
  rw [if_pos hw]
  obtain ⟨i, hi, hz, hs1, hb1⟩ := info3 T.info
  obtain ⟨v', w', hr, h2, h3, _⟩ := Go.Lib.run_append_own_string (P := P) (w := w) base t u o.type e i T.under hu hi hz hs1 hb1 v l.length _ hown.1 s (by simp only [maxLen]; omega) hb hbase
  have hO : Own (fun _ => False) w' base e 1 encB v' (l ++ s.data.toList) := ⟨by
    rw [List.length_append, size_toList, List.flatMap_append, ← strCells_enc]; exact h2, fun _ _ f => f⟩
  obtain ⟨a', c', hvv, _⟩ := hO.form
  rw [List.length_append, size_toList] at hvv
  subst hvv
  unfold Oper.wp execOp
  simp only [ho, resolve, invoke, builtin, Sem.run_bind, Sem.run_pure, Result.andThen_ok, List.map_toArray, List.map_cons, List.map_nil, hv, hx, hr]
  exact h a' c' w' hO h3

section
variable {P P' F F' : Nat → Prop} {ad : Nat → Addr} {w w' : World} {c s : Nat} {G G' : GA} {l l' : List Nat}
set_option maxRecDepth 100000 in
set_option maxHeartbeats 1000000 in
theorem chPut_ok (hL : Env F ad w) (hP : ∀ k, P k → F k) (h : PgR F w P c s G l) (gen : Nat) (hg : gen < 18446744073709551616) (id : Nat) (hid : id < G.blocks) (next : Nat) (hn : next < 4294967296) (v : ByteArray) (hv : v.size + 28 ≤ G.size) (hco : G.cost < 1000000) :
    Calls Tryd.prog 41 #[pgV c s gen, .int .i64 (id : Int), .int .i64 (next : Int), .string v] w (PgDone F P ad w c s (G.put ⟨4, id, gen, leB 4 next ++ v.data.toList⟩) l (fun _ _ e => e = .returned .nilIface)) := by
  unfold pgV
  obtain ⟨_, b256, _, s1024, _, _⟩ := h.lim
  have m0 : Ext w (w.alloc (.cells #[.pointer (some ⟨c, 0, none⟩), .pointer (some ⟨s, 0, none⟩), .int .u64 (gen : Int)] 29)) := (Mods.refl _ w).alloc _
  have hL0 := hL.mods m0.ext
  have HB0 := Lib.hid (Blk.new w #[.pointer (some ⟨c, 0, none⟩), .pointer (some ⟨s, 0, none⟩), .int .u64 (gen : Int)] 29)
  have HL0 := Lib.hid hL0
  have HG := Lib.hid h
  have HL := Lib.hid hL
  have HP := Lib.hid hP
  have HGN := Lib.hid hg
  have HM0 := Lib.hid m0
  have HPC : Hid (pgCheck ⟨4, (id : Int), gen, leB 4 next ++ v.data.toList⟩ (G.size : Int) = none) := Lib.hid (by
    unfold pgCheck
    rw [if_neg (by have := (h.lim).2.2.1; unfold sizedB; simp; omega), if_neg]
    simp only [List.length_append, leB_length, size_toList]
    have : kindB 4 = true := rfl
    rw [this]
    simp; omega)
  clear hL hL0 hP h m0 hg
  go_enter Tryd.func41, Tryd.ntmps41
  go_wp2_with fail
  refine (Put_any HL0.out (.slice none 0 0) [] (Sl.nil _ _ _ _) next 4 (by omega) (by omega) (by simp)).mono ?_
  rintro e w1 ⟨pa, pc, rfl, hown, hm1⟩
  have HO1 : Hid (Own (fun _ => False) w1.drew w.heap.size 5 1 encB (.slice pa 4 pc) (leB 4 next)) := Lib.hid (by
    have h1 := hown.rebase (base' := w.heap.size) (by simp)
    have h2 : Own F w1 w.heap.size 5 1 encB (.slice pa 4 pc) (leB 4 next) := by simpa using h1
    exact ⟨h2.1, fun _ _ f => f⟩)
  have HOB : Hid (∀ g, (Value.slice pa 4 pc).ownBlock = some g → w.heap.size < g ∧ g < w1.heap.size) := Lib.hid (fun g hg => by
    have := hown.lt g (by simpa using hg)
    simp at this; omega)
  have HM1 := Lib.hid hm1
  have HB1 := Lib.hid (HB0.out.ext hm1)
  have r0 := HB1.out.cell (o := 0) (v := .pointer (some ⟨c, 0, none⟩)) rfl
  have r2 := HB1.out.cell (o := 2) (v := .int .u64 (gen : Int)) rfl
  have HBZ : Hid (w.heap.size ≤ w1.drew.heap.size) := Lib.hid (HM0.out.trans hm1).size
  have hlen4 : (leB 4 next).length = 4 := leB_length 4 next
  have HL4 := Lib.hid hlen4
  simp only [List.length_nil, Nat.zero_add]
  clear hown hm1 hlen4
  go_wp2_with fail
  go_region_law
    (first
      | (refine step_app_str Tryd.elB Tryd.underlying9 (by rfl) _ _ (by rfl) w.heap.size (.slice pa 4 pc) (leB 4 next) v (by rfl) (by rfl) HO1.out (by have := HL4.out; omega) HBZ.out ?_; intro a' c' w4 hown hgrow; have hg4 := Mods.of_grown hgrow; have y0 := (hg4.cell (cell_lt r0) (fun e => by have := HOB.out _ e; omega)).trans r0; have y2 := (hg4.cell (cell_lt r2) (fun e => by have := HOB.out _ e; omega)).trans r2; have HE4 : Hid (Ext w w4) := Lib.hid ((HM0.out.trans HM1.out).drew.trans' hg4 (fun i hi e => by have := HOB.out _ e; omega)); have HS4 := Lib.hid (Own.sl (F := F) ⟨hown.1, fun g hg f => by have := hown.lt g hg; have := HL.out.lt g f; omega⟩ encB_ok.len (by rw [List.length_append, size_toList, leB_length]; omega)))
      | (go_simp; go_at_call 62; refine (pgPut (HL.out.mods HE4.out.ext) HP.out (HG.out.at HE4.out) ⟨4, id, gen, leB 4 next ++ v.data.toList⟩ _ HS4.out HGN.out ⟨by simp only; omega, by simp only; omega⟩ HPC.out hco).mono ?_; rintro e w5 ⟨P5, F5, hG5, hN5, rfl⟩))
  all_goals
    have HG5 := Lib.hid hG5
    have HN5 := Lib.hid hN5
    clear hG5 hN5 hown hgrow hg4 y0 y2
    go_wp2_with fail
    go_ret
    exact ⟨P5, F5, HG5.out, (Nxt.ext HL.out HP.out HE4.out).trans HN5.out, rfl⟩
end
end Go.Proofs.YtidjkcfjocppmaaDoor
