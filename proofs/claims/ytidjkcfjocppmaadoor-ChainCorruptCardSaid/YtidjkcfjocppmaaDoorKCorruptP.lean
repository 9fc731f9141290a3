/- ChainCorrupt: for every integer and every burst the statement's function returns true, and leaves its arguments as they were. No condition beside the given row's. -/
import Derived.Test.YtidjkcfjocppmaaDoorKDoorH
import Derived.Test.YtidjkcfjocppmaaDoorKCorruptL
namespace Go.Proofs.YtidjkcfjocppmaaDoor.lawCorrupt
open Go.ChangeShapes Go.WideShapes Go.ChangeAt Go.RowKit

theorem burstCells : Tryd.prog.cellsOf 62 = 3 := by kernel_rfl
set_option maxRecDepth 100000 in
theorem lifted (os : Os) (started : os.Started) (H : Type) (enc : TypeId × Value → H) :
    ReturnsInHanded {} Tryd.checked os 8 .any (fun w args => (Rows.chainCorruptSpec.pre enc Tryd.prog Tryd.f8 [] false w args ∧ laidMetH Tryd.prog laid10 w) ∧ sizedMet enc Tryd.prog Tryd.f8 (OpenSpec.ofChange Rows.chainCorruptSpec) false w args)
      (Rows.chainCorruptSpec.post enc Tryd.prog Tryd.f8 false true false false) := by
  refine returnsInHanded_of_change_and (C := Tryd.checked) (X := fun w _ => laidMetH Tryd.prog laid10 w) (fun _ _ _ hh h => h.of_heap hh) Tryd.own started (by kernel_rfl) Tryd.func8
    (ChangeSpec.witness_shaped (enc := enc) (C := Tryd.checked) (os := os) (X := fun w _ => laidMetH Tryd.prog laid10 w) false (world10 os) #[.int .i64 0, .agg #[.int .u16 0, .int .u16 0, .int .u32 0]] 8 (world10_os _)
      (World.shaped_of_ZipB (by kernel_rfl) (by kernel_rfl)) (by kernel_rfl) (by kernel_rfl) (by kernel_rfl)
      (world10_met os _)) ?_
  intro W base args ds gs before hval0 hW _ hsz hX _
  have hval : ∀ (j : Nat) t v, Tryd.f8.params[j]? = some t → args[j]? = some v → Value.okWide Tryd.prog W .any base t v := hval0
  have hX10 : laidMetH Tryd.prog laid10 W := hX
  have hgT := handle_of_laid hX10
  obtain ⟨ad, hE, hF⟩ := env9 (parts10 hX10).1
  have hW' := hW
  obtain ⟨p, q, hA0, hV, rfl, _, _⟩ := hW
  have hA : DataW.TrodAll enc Tryd.prog W 0 (fun _ => true) true Tryd.f8.params.toList args.toList ds p := hA0
  have hA1 := hA
  rw [Tryd.params8] at hA hval
  obtain ⟨v0, v1, d0, d1, p0, p1, rfl, rfl, rfl, h0, h1⟩ := trodAll_two hA
  obtain ⟨rfl, rfl⟩ := trodVars_none hV
  obtain ⟨x0, rfl, rfl, rfl, wx0⟩ := open_int Tryd.underlying3 (hval 0 3 v0 rfl rfl) h0
  have r0 := int_range wx0
  obtain ⟨c0, c1, c2, y0, y1, y2, k, rfl, hd, rfl, hy0, hy1, hy2⟩ := Go.Joins.open_agg3 Tryd.underlying62 (by kernel_rfl) burstCells (hval 1 62 v1 rfl rfl) h1
  obtain ⟨z0, e0, g0, wz0⟩ := DataW.trod_int Tryd.underlying59 hy0
  obtain ⟨z1, e1, g1, wz1⟩ := DataW.trod_int Tryd.underlying59 hy1
  obtain ⟨z2, e2, g2, wz2⟩ := DataW.trod_int Tryd.underlying60 hy2
  simp only [List.cons.injEq, and_true] at e0 e1 e2
  subst e0 e1 e2
  have b0 := u16_range wz0
  have b1 := u16_range wz1
  have b2 := u32_range wz2
  obtain ⟨p0, rfl⟩ : ∃ p0 : Nat, z0 = (p0 : Int) := ⟨z0.toNat, by omega⟩
  obtain ⟨q0, rfl⟩ : ∃ q0 : Nat, z1 = (q0 : Int) := ⟨z1.toNat, by omega⟩
  obtain ⟨m0, rfl⟩ : ∃ m0 : Nat, z2 = (m0 : Int) := ⟨z2.toNat, by omega⟩
  simp only [List.append_nil] at hW'
  refine (ChainCorrupt_any hE hF hgT x0 p0 q0 m0 (by omega) (by omega) (by omega)).mono fun e W' ⟨he, hm⟩ => ?_
  subst he
  have hb := Mods.below hm
  have hargs := trodAll_below Tryd.laidOut hb _ _ _ _ (by kernel_rfl) hA1 (fun y hy => hW'.lt y (by simpa using hy))
  exact ⟨_, rfl, _, _, _, [], _, [], hW', trodAll_mk1 (shut_bool Tryd.underlying4 _), hargs, rfl, hb.frame _, fun h => by cases h⟩

theorem said : Rows.ChainCorruptSaid :=
  OpenClaim.holds_of_wide 8 Tryd.f8 rfl rfl rfl rfl rfl rfl rfl ⟨rfl, rfl, rfl, rfl, rfl⟩ rfl rfl rfl rfl rfl (by kernel_rfl) Tryd.func8 (by kernel_rfl)
    (of_decide_eq_true (by kernel_rfl)) (by unfold Func.isWrapper; first | (rw [if_pos (by decide +kernel)]; kernel_rfl) | (rw [if_neg (by decide +kernel)]; exact ⟨rfl, rfl⟩))
    (fun os started H enc _ => lifted os started H enc)

theorem plain (f : FuncId) (fn : Func) (hf : Tryd.pinned.checked.prog.funcNamed "scrinium/scriniumlaw10.ChainCorrupt" = some f) (hfn : Tryd.pinned.checked.prog.funcs[f]? = some fn) :
    true = Tryd.pinned.checked.prog.looks [] ∧ ∀ (j : Nat) t, fn.params[j]? = some t → Tryd.pinned.checked.prog.wantsStandIn t = false := by
  obtain rfl : f = 8 := Option.some.inj ((show Tryd.prog.funcNamed "scrinium/scriniumlaw10.ChainCorrupt" = some 8 by kernel_rfl).symm.trans hf) |>.symm
  obtain rfl : fn = Tryd.f8 := (Option.some.inj (Tryd.func8.symm.trans hfn)).symm
  refine ⟨by kernel_rfl, fun j t ht => ?_⟩
  rw [Tryd.params8] at ht
  have hm : t ∈ [3, 62] := by simpa using Array.mem_of_getElem? ht
  have hall : ([3, 62].all fun u => !Tryd.prog.wantsStandIn u) = true := by kernel_rfl
  exact (show Tryd.prog.wantsStandIn t = false by simpa using List.all_eq_true.1 hall t hm)

theorem card : Rows.ChainCorruptCardSaid :=
  Claim7.holds_tied_plain_at .later [] _ _ _ _ said (fun _ h => by cases h) (by kernel_rfl) (fun _ h => by cases h) chainCorrupt_row_tie rfl ⟨rfl, rfl⟩ (by kernel_rfl) rfl plain (by kernel_rfl)
#print axioms card
end Go.Proofs.YtidjkcfjocppmaaDoor.lawCorrupt
