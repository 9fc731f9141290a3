/- BoundBatches: for every geometry and any two lists of pairs the statement's function returns true, and leaves its arguments as they were. No condition beside the given row's. -/
import Derived.Test.YtcjlbpmhkoidhaaDoorDoor
import Derived.Lib.SmallJoins
import Derived.Test.YtcjlbpmhkoidhaaDoorBoundL2
namespace Go.Proofs.YtcjlbpmhkoidhaaDoor.lawBatches
open Go.ChangeShapes Go.WideShapes Go.ChangeAt Go.RowKit

theorem geoCells : Tryd.prog.cellsOf 34 = 2 := by kernel_rfl
theorem sizes {H : Type} {types : List TypeId} {all : List (DataW H)} (h : (DataW.weightsEach Tryd.prog types all).all (· ≤ reachBytes) = true) {j : Nat} {d : DataW H} (ht : types[j]? = some 22) (hd : all[j]? = some d) :
    ∀ (elems spare : List (DataW H)), d = .slice elems spare → elems.length ≤ 140737488355328 := by
  rintro elems spare rfl
  have h1 := sized_slice h ht hd Tryd.underlying22
  have hb : Tryd.prog.bytesOf 49 = 32 := by kernel_rfl
  rw [hb] at h1
  have := reachBytes_lt
  omega

set_option maxRecDepth 100000 in
theorem lifted (os : Os) (started : os.Started) (H : Type) (enc : TypeId × Value → H) :
    ReturnsInHanded {} Tryd.checked os 4 .any (fun w args => (Rows.boundBatchesSpec.pre enc Tryd.prog Tryd.f4 [] false w args ∧ laidMetH Tryd.prog laidAll w) ∧ sizedMet enc Tryd.prog Tryd.f4 (OpenSpec.ofChange Rows.boundBatchesSpec) false w args)
      (Rows.boundBatchesSpec.post enc Tryd.prog Tryd.f4 false true false false) := by
  refine returnsInHanded_of_change_and (C := Tryd.checked) (X := fun w _ => laidMetH Tryd.prog laidAll w) (fun _ _ _ hh h => h.of_heap hh) Tryd.own started (by kernel_rfl) Tryd.func4
    (ChangeSpec.witness_shaped (enc := enc) (C := Tryd.checked) (os := os) (X := fun w _ => laidMetH Tryd.prog laidAll w) false (World.laidAll Tryd.prog os laidAll) #[.agg #[.int .i64 0, .int .i64 0], .slice none 0 0, .slice none 0 0] 8 (World.laidAll_os _ _ _)
      (World.shaped_of_ZipB (by kernel_rfl) (by kernel_rfl)) (by kernel_rfl) (by kernel_rfl) (by kernel_rfl)
      (by rw [MakeChecks.laidMetH_plain _ _ _ (by kernel_rfl)]; exact laidMet_laidAll _ (by kernel_rfl) (by kernel_rfl))) ?_
  intro W base args ds gs before hval0 hW _ hsz hX _
  have hval : ∀ (j : Nat) t v, Tryd.f4.params[j]? = some t → args[j]? = some v → Value.okWide Tryd.prog W .any base t v := hval0
  have hLaid : laidMet Tryd.prog laidAll W := by
    have h := hX
    change laidMetH Tryd.prog laidAll W at h
    rw [MakeChecks.laidMetH_plain _ _ _ (by kernel_rfl)] at h
    exact h
  obtain ⟨ad, hE⟩ := env_of_laid hLaid
  have hW' := hW
  obtain ⟨p, q, hA0, hV, rfl, _, _⟩ := hW
  have hA : DataW.TrodAll enc Tryd.prog W 0 (fun _ => true) true Tryd.f4.params.toList args.toList ds p := hA0
  have hA1 := hA
  rw [Tryd.params4] at hA hval
  obtain ⟨v0, v1, v2, d0, d1, d2, p0, p1, p2, rfl, rfl, rfl, h0, h1, h2⟩ := trodAll_three hA
  obtain ⟨rfl, rfl⟩ := trodVars_none hV
  obtain ⟨l, hl⟩ := read_pairs (hval 1 22 v1 rfl rfl) h1 (sizes hsz (j := 1) rfl rfl)
  obtain ⟨k, hk⟩ := read_pairs (hval 2 22 v2 rfl rfl) h2 (sizes hsz (j := 2) rfl rfl)
  obtain ⟨c0, c1, y0, y1, m, rfl, hd, rfl, hy0, hy1⟩ := Go.Joins.open_agg2 Tryd.underlying34 (by kernel_rfl) geoCells (hval 0 34 v0 rfl rfl) h0
  obtain ⟨x, e0, _, _⟩ := DataW.trod_int Tryd.underlying3 hy0
  obtain ⟨z, e1, _, _⟩ := DataW.trod_int Tryd.underlying3 hy1
  simp only [List.cons.injEq, and_true] at e0 e1
  subst e0 e1
  simp only [List.append_nil] at hW'
  refine (BoundBatches_any hE x z v1 v2 l k hl hk).mono fun e W' ⟨he, hm⟩ => ?_
  subst he
  have hb := Mods.below hm
  have hargs := trodAll_below Tryd.laidOut hb _ _ _ _ (by kernel_rfl) hA1 (fun y hy => hW'.lt y (by simpa using hy))
  exact ⟨_, rfl, _, _, _, [], _, [], hW', trodAll_mk1 (shut_bool Tryd.underlying4 _), hargs, rfl, hb.frame _, fun h => by cases h⟩

theorem said : Rows.BoundBatchesSaid :=
  OpenClaim.holds_of_wide 4 Tryd.f4 rfl rfl rfl rfl rfl rfl rfl ⟨rfl, rfl, rfl, rfl, rfl⟩ rfl rfl rfl rfl rfl (by kernel_rfl) Tryd.func4 (by kernel_rfl)
    (of_decide_eq_true (by kernel_rfl)) (by unfold Func.isWrapper; first | (rw [if_pos (by decide +kernel)]; kernel_rfl) | (rw [if_neg (by decide +kernel)]; exact ⟨rfl, rfl⟩))
    (fun os started H enc _ => lifted os started H enc)

theorem plain (f : FuncId) (fn : Func) (hf : Tryd.pinned.checked.prog.funcNamed "scrinium/scriniumlaw19.BoundBatches" = some f) (hfn : Tryd.pinned.checked.prog.funcs[f]? = some fn) :
    true = Tryd.pinned.checked.prog.looks [] ∧ ∀ (j : Nat) t, fn.params[j]? = some t → Tryd.pinned.checked.prog.wantsStandIn t = false := by
  obtain rfl : f = 4 := Option.some.inj ((show Tryd.prog.funcNamed "scrinium/scriniumlaw19.BoundBatches" = some 4 by kernel_rfl).symm.trans hf) |>.symm
  obtain rfl : fn = Tryd.f4 := (Option.some.inj (Tryd.func4.symm.trans hfn)).symm
  refine ⟨by kernel_rfl, fun j t ht => ?_⟩
  rw [Tryd.params4] at ht
  have hm : t ∈ [34, 22] := by simpa using Array.mem_of_getElem? ht
  have hall : ([34, 22].all fun u => !Tryd.prog.wantsStandIn u) = true := by kernel_rfl
  exact (show Tryd.prog.wantsStandIn t = false by simpa using List.all_eq_true.1 hall t hm)

theorem card : Rows.BoundBatchesCardSaid :=
  Claim7.holds_tied_plain_at .later [] _ _ _ _ said (fun _ h => by cases h) (by kernel_rfl) (fun _ h => by cases h) boundBatches_row_tie rfl ⟨rfl, rfl⟩ (by kernel_rfl) rfl plain (by kernel_rfl)
#print axioms card
end Go.Proofs.YtcjlbpmhkoidhaaDoor.lawBatches
