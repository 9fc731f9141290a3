/- From the row's reading to the contracts: the laid errors, the arguments read again, slices of pairs. -/
import Derived.Test.YtcjlbpmhkoidhaaDoorTie
import Derived.Test.YtcjlbpmhkoidhaaDoorCards
import Derived.Test.YtcjlbpmhkoidhaaDoorFault
import Derived.Test.YtcjlbpmhkoidhaaDoorDefs
import Derived.ProofKit
import Derived.Deep.SlicePairs
import Derived.Stop.LaidErr
import Derived.Lay
import Derived.SizedLaws
import Derived.SevenTiedAt
namespace Go.Proofs.YtcjlbpmhkoidhaaDoor
open Go.ChangeShapes Go.WideShapes Go.ChangeAt Go.RowKit

theorem Tryd.own : ownKnob Tryd.prog.godebug = none := by kernel_rfl
theorem Tryd.laidOut : laidOutB Tryd.prog = true := by kernel_rfl

/-- what is read of the arguments reads the same behind a call that turns nothing old. -/
theorem trodAll_below {H : Type} {enc : TypeId × Value → H} {P : Program} (hl : laidOutB P = true) {W W' : World} (hb : Below W.heap.size W W') :
    ∀ (ts : List TypeId) (vs : List Value) (ds : List (DataW H)) (ps : List MemPlace), (ts.all fun t => P.readableRec t && decide (t < P.types.size)) = true →
      DataW.TrodAll enc P W 0 (fun _ => true) true ts vs ds ps → (∀ x ∈ ps, x.block < W.heap.size) →
      DataW.TrodAll enc P W' 0 (fun b => decide (b < W.heap.size)) true ts vs ds ps
  | [], [], [], ps, _, h, _ => h
  | t :: ts, v :: vs, d :: ds, ps, hok, h, hlt => by
    obtain ⟨p, q, h1, h2, rfl⟩ := h
    simp only [List.all_cons, Bool.and_eq_true, decide_eq_true_eq] at hok
    exact ⟨p, q, Below.trod hl hok.1.1 hok.1.2 h1 hb (fun x hx => hlt x (by simp [hx])), trodAll_below hl hb ts vs ds q hok.2 h2 (fun x hx => hlt x (by simp [hx])), rfl⟩
  | [], _ :: _, _, _, _, h, _ => h.elim
  | [], [], _ :: _, _, _, h, _ => h.elim
  | _ :: _, [], _, _, _, h, _ => h.elim
  | _ :: _, _ :: _, [], _, _, h, _ => h.elim

/-- one error of the list. -/
theorem laid_one {P : Program} {n nm : String} {text : List UInt8} {r : List (String × DataW Unit)} {W : World} {g : Nat} {ti tp te ts : TypeId} {ms : Array (String × TypeId)} {f : Field}
    (h : laidMet P ((n, .iface nm (.ptr (.agg [.lit (.string text)]))) :: r) W)
    (hg : P.globalNamed n = some g) (ht : (P.globals[g]?).map (·.type) = some ti) (hi : P.underlying ti = some (.interface ms)) (hrow : ∀ u, P.typeName? 3 u = some nm → u = tp)
    (hp : P.underlying tp = some (.pointer te)) (he : P.underlying te = some (.struct #[f])) (hft : f.type = ts) (hfo : f.offset = 0) (hs : P.underlying ts = some .string) (hc : P.cellsOf te = 1) (hcs : P.cellsOf ts = 1) :
    ∃ (a : Addr) (s : ByteArray), W.cell? ⟨g, 0, none⟩ = some (.iface tp (.pointer (some a))) ∧ W.cell? a = some (.string s) ∧ s.data.toList = text ∧ ∃ c t, W.heap[a.block]? = some (.cells c t (0, 0)) := by
  obtain ⟨ps, ⟨g0, t0, cs0, f0, p0, q0, hg0, ht0, hv0, hd0, _, e0⟩, _, hrows⟩ := h
  obtain rfl := Option.some.inj (hg.symm.trans hg0)
  obtain rfl := Option.some.inj (ht.symm.trans ht0)
  subst e0
  obtain ⟨l0⟩ := cs0
  have ok0 : ∀ u v, l0 = [.iface u v] → Value.okWide P W .any 0 u v := fun u v e => by
    subst e
    exact (hrows g 0 (by simp [MemPlace.row])).2 u v (by simpa using World.var?_cell hg0 hv0 0)
  obtain ⟨a0, s0, rfl, hc0, hs0, hz0, rfl⟩ := errorString_of_trod hi hrow hp he hft hfo hs hc hcs hd0 ok0
  exact ⟨a0, s0, by simpa using World.var?_cell hg0 hv0 0, hc0, hs0, (hrows a0.block a0.off (by simp [MemPlace.row])).1⟩

theorem one_to_nine {p : Nat → Prop} (h1 : p 1) (h2 : p 2) (h3 : p 3) (h4 : p 4) (h5 : p 5) (h6 : p 6) (h7 : p 7) (h8 : p 8) (h9 : p 9) : ∀ k, 1 ≤ k → k ≤ 9 → p k := by
  intro k a b
  obtain rfl | rfl | rfl | rfl | rfl | rfl | rfl | rfl | rfl : k = 1 ∨ k = 2 ∨ k = 3 ∨ k = 4 ∨ k = 5 ∨ k = 6 ∨ k = 7 ∨ k = 8 ∨ k = 9 := by omega
  all_goals assumption

def laidAll : List (String × DataW Unit) := [("scrinium/api.ErrForm", Rows.laid_scrinium_api_ErrForm), ("scrinium/api.ErrRange", Rows.laid_scrinium_api_ErrRange), ("scrinium/api.ErrFull", Rows.laid_scrinium_api_ErrFull), ("scrinium/api.ErrNone", Rows.laid_scrinium_api_ErrNone), ("scrinium/api.ErrCorrupt", Rows.laid_scrinium_api_ErrCorrupt), ("scrinium/api.ErrFuel", Rows.laid_scrinium_api_ErrFuel), ("scrinium/api.ErrState", Rows.laid_scrinium_api_ErrState), ("scrinium/api.ErrLong", Rows.laid_scrinium_api_ErrLong), ("scrinium/api.ErrTwice", Rows.laid_scrinium_api_ErrTwice)]

def errText : Nat → List UInt8
  | 1 => [102, 111, 114, 109]
  | 2 => [114, 97, 110, 103, 101]
  | 3 => [102, 117, 108, 108]
  | 4 => [110, 111, 110, 101]
  | 5 => [99, 111, 114, 114, 117, 112, 116]
  | 6 => [102, 117, 101, 108]
  | 7 => [115, 116, 97, 116, 101]
  | 8 => [108, 111, 110, 103]
  | _ => [116, 119, 105, 99, 101]
theorem errText_ne : ∀ i, i < 10 → ∀ j, j < 10 → 1 ≤ i → 1 ≤ j → errText i = errText j → i = j := by decide

theorem errStar : "*" ++ "errors.errorString" = "*errors.errorString" := by decide
theorem errRow (u : TypeId) (h : Tryd.prog.typeName? 3 u = some "*errors.errorString") : u = 87 :=
  typeName_ptr_named (nm := "errors.errorString") (by rw [errStar]; kernel_rfl) (by kernel_rfl) (by decide) u (by rw [errStar]; exact h)
theorem errCells : Tryd.prog.cellsOf 112 = 1 := by kernel_rfl
theorem pairCells : Tryd.prog.cellsOf 49 = 2 := by kernel_rfl
theorem strCells : Tryd.prog.cellsOf 9 = 1 := by kernel_rfl

/-- THE LAID ERRORS GIVE WHAT THE CONTRACTS ASK. -/
theorem env_of_laid {W : World} (h : laidMet Tryd.prog laidAll W) : ∃ ad, Env (fun _ => False) ad W := by
  unfold laidAll at h
  obtain ⟨a1, s1, c1, d1, t1, r1⟩ := laid_one h (by kernel_rfl) (by kernel_rfl) Tryd.underlying24 errRow Tryd.underlying87 Tryd.underlying112 rfl rfl Tryd.underlying9 errCells strCells
  replace h := h.tail
  obtain ⟨a2, s2, c2, d2, t2, r2⟩ := laid_one h (by kernel_rfl) (by kernel_rfl) Tryd.underlying24 errRow Tryd.underlying87 Tryd.underlying112 rfl rfl Tryd.underlying9 errCells strCells
  replace h := h.tail
  obtain ⟨a3, s3, c3, d3, t3, r3⟩ := laid_one h (by kernel_rfl) (by kernel_rfl) Tryd.underlying24 errRow Tryd.underlying87 Tryd.underlying112 rfl rfl Tryd.underlying9 errCells strCells
  replace h := h.tail
  obtain ⟨a4, s4, c4, d4, t4, r4⟩ := laid_one h (by kernel_rfl) (by kernel_rfl) Tryd.underlying24 errRow Tryd.underlying87 Tryd.underlying112 rfl rfl Tryd.underlying9 errCells strCells
  replace h := h.tail
  obtain ⟨a5, s5, c5, d5, t5, r5⟩ := laid_one h (by kernel_rfl) (by kernel_rfl) Tryd.underlying24 errRow Tryd.underlying87 Tryd.underlying112 rfl rfl Tryd.underlying9 errCells strCells
  replace h := h.tail
  obtain ⟨a6, s6, c6, d6, t6, r6⟩ := laid_one h (by kernel_rfl) (by kernel_rfl) Tryd.underlying24 errRow Tryd.underlying87 Tryd.underlying112 rfl rfl Tryd.underlying9 errCells strCells
  replace h := h.tail
  obtain ⟨a7, s7, c7, d7, t7, r7⟩ := laid_one h (by kernel_rfl) (by kernel_rfl) Tryd.underlying24 errRow Tryd.underlying87 Tryd.underlying112 rfl rfl Tryd.underlying9 errCells strCells
  replace h := h.tail
  obtain ⟨a8, s8, c8, d8, t8, r8⟩ := laid_one h (by kernel_rfl) (by kernel_rfl) Tryd.underlying24 errRow Tryd.underlying87 Tryd.underlying112 rfl rfl Tryd.underlying9 errCells strCells
  replace h := h.tail
  obtain ⟨a9, s9, c9, d9, t9, r9⟩ := laid_one h (by kernel_rfl) (by kernel_rfl) Tryd.underlying24 errRow Tryd.underlying87 Tryd.underlying112 rfl rfl Tryd.underlying9 errCells strCells
  refine ⟨fun k => ([a1, a2, a3, a4, a5, a6, a7, a8, a9].getD (k - 1) a1), ⟨c1, c2, c3, c4, c5, c6, c7, c8, c9, ?_, ?_, ?_, fun _ _ f => f, fun _ _ _ f => f, fun _ f => f.elim⟩⟩
  · have key : ∀ k, 1 ≤ k → k ≤ 9 → ∃ s, W.cell? ([a1, a2, a3, a4, a5, a6, a7, a8, a9].getD (k - 1) a1) = some (.string s) ∧ s.data.toList = errText k :=
      one_to_nine ⟨s1, d1, t1⟩ ⟨s2, d2, t2⟩ ⟨s3, d3, t3⟩ ⟨s4, d4, t4⟩ ⟨s5, d5, t5⟩ ⟨s6, d6, t6⟩ ⟨s7, d7, t7⟩ ⟨s8, d8, t8⟩ ⟨s9, d9, t9⟩
    intro i j hi hi9 hj hj9 he
    obtain ⟨si, hsi, hti⟩ := key i hi hi9
    obtain ⟨sj, hsj, htj⟩ := key j hj hj9
    rw [he, hsj] at hsi
    injection hsi with hsi
    injection hsi with hsi
    subst hsi
    exact errText_ne i (by omega) j (by omega) hi hj (hti.symm.trans htj)
  · exact one_to_nine r1 r2 r3 r4 r5 r6 r7 r8 r9
  · have hall : ∀ g, g < 9 → g < W.heap.size := by
      intro g hg
      have : g ∈ [1, 0, 2, 3, 4, 5, 6, 7, 8] := by
        simp only [List.mem_cons, List.not_mem_nil, or_false]; omega
      simp only [List.mem_cons, List.not_mem_nil, or_false] at this
      rcases this with rfl | rfl | rfl | rfl | rfl | rfl | rfl | rfl | rfl
      · exact cell_lt c1
      · exact cell_lt c2
      · exact cell_lt c3
      · exact cell_lt c4
      · exact cell_lt c5
      · exact cell_lt c6
      · exact cell_lt c7
      · exact cell_lt c8
      · exact cell_lt c9
    exact hall (9 - 1) (by decide)

def strV : Value → ByteArray
  | .string s => s
  | _ => ⟨#[]⟩

set_option maxRecDepth 100000 in
/-- A SLICE OF PAIRS AS IT IS READ. -/
theorem read_pairs {H : Type} {enc : TypeId × Value → H} {W : World} {v : Value} {d : DataW H} {ps : List MemPlace} {base : Nat}
    (hok : Value.okWide Tryd.prog W .any base 22 v) (h : DataW.Trod enc Tryd.prog W 0 (fun _ => true) true 22 v d ps)
    (hsz : ∀ (elems spare : List (DataW H)), d = .slice elems spare → elems.length ≤ 140737488355328) : ∃ l : List (ByteArray × ByteArray), Sl (fun _ => False) W 2 encP v l := by
  obtain ⟨a0, len0, cap0, rfl⟩ := okWide_slice Tryd.underlying22 hok
  obtain ⟨fuel, hf⟩ := h
  rcases Go.Deep.open_slice_pairs Tryd.underlying22 Tryd.underlying49 pairCells rfl rfl strCells strCells hf with ⟨hcs, _⟩ | ⟨a, len, cap, m, n, V0, V1, D0, D1, P0, P1, hcs, _, hl, hm, hmm, hx, hc⟩
  · have : Value.slice a0 len0 cap0 = .slice none 0 0 := by simpa [Value.cells] using hcs
    rw [this]
    exact ⟨[], Sl.nil _ _ _ _⟩
  · have hv : Value.slice a0 len0 cap0 = .slice (some a) len cap := by simpa [Value.cells] using hcs
    rw [hv]
    have hlen : len ≤ 140737488355328 := by
      have := hsz _ _ (congrArg Prod.fst hx)
      simpa using this
    have hlm : len ≤ m := by rw [hmm]; split <;> omega
    have str : ∀ i, i < len → W.cell? (a.add (i * 2)) = some (.string (strV (V0 i))) ∧ W.cell? (a.add (i * 2 + 1)) = some (.string (strV (V1 i))) := by
      intro i hi
      obtain ⟨e0, e1, g0, g1⟩ := hc i (by omega)
      obtain ⟨s0, h0, _⟩ := DataW.trod_string Tryd.underlying9 g0
      obtain ⟨s1, h1, _⟩ := DataW.trod_string Tryd.underlying9 g1
      have q0 : V0 i = .string s0 := by simpa using h0
      have q1 : V1 i = .string s1 := by simpa using h1
      rw [q0] at e0
      rw [q1] at e1
      rw [q0, q1]
      exact ⟨e0, e1⟩
    refine ⟨(List.range len).map fun i => (strV (V0 i), strV (V1 i)), some a, cap, by simp, by simpa using hl, hm, by simpa using hlen, ?_⟩
    by_cases hz : len = 0
    · left; simp [hz]
    · right
      have h0 := (str 0 (by omega)).1
      have hadd : a.add (0 * 2) = a := by simp [Addr.add]
      rw [hadd] at h0
      have hspot : a.spot = none := by
        unfold World.cell? at h0
        split at h0
        · split at h0
          · simp at h0
          · rename_i hs; simpa using hs
        · simp at h0
      obtain ⟨b, off, spot⟩ := a
      simp only at hspot
      subst hspot
      refine ⟨b, off, rfl, cell_lt h0, fun f => f, ?_⟩
      intro i x hi j u hu
      have hil : i < len := by
        have := (List.getElem?_eq_some_iff.1 hi).1; simpa using this
      have hx : x = (strV (V0 i), strV (V1 i)) := by
        have : some (strV (V0 i), strV (V1 i)) = some x := by rw [← hi]; simp [hil]
        exact (Option.some.inj this).symm
      subst hx
      have hplain : ∀ q : Nat, (⟨b, off, none⟩ : Addr).add q = ⟨b, off + q, none⟩ := by
        intro q; unfold Addr.add; split <;> simp_all
      have hs := str i hil
      rw [hplain, hplain] at hs
      match j, hu with
      | 0, hu => simp [encP] at hu; subst hu; exact hs.1
      | 1, hu => simp [encP] at hu; subst hu; exact hs.2
end Go.Proofs.YtcjlbpmhkoidhaaDoor
