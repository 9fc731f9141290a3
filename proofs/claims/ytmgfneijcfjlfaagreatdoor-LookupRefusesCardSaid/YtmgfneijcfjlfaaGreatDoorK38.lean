/- lookup's functions at a pager without a cache; lookup.Walk at an empty tree. -/
import Derived.Test.YtmgfneijcfjlfaaGreatDoorK30
import Derived.Test.YtmgfneijcfjlfaaGreatDoorK20
namespace Go.Proofs.YtmgfneijcfjlfaaGreatDoor
open Go.RowKit
attribute [local go_sem ↓] Go.wp_at_zero Go.wp_at_succ
section
variable {P P' F F' : Nat → Prop} {ad : Nat → Addr} {w w' : World} {c s : Nat} {G : GA} {l : List Nat}
abbrev noneV (sp : Option Addr) (gen : Nat) : Value := .agg #[.pointer none, .pointer sp, .int .u64 (gen : Int)]
set_option maxRecDepth 100000 in
theorem check_nil (hL : Env F ad w) (op : ByteArray) (sp : Option Addr) (gen : Nat) (key : ByteArray) : Calls Tryz.prog 38 #[.string op, noneV sp gen, .string key] w fun e w' => ∃ f, e = .returned (faultV f) ∧ ErrC F ad w' (faultV f) [-1] 7 ∧ Ext w w' := by
  have m0 : Ext w (w.alloc (.cells #[.pointer none, .pointer sp, .int .u64 (gen : Int)] 34)) := (Mods.refl _ w).alloc _
  have HR := Lib.hid (fun op => ready_nil (hL.mods m0.ext) op sp gen)
  have M0 := Lib.hid m0
  clear hL m0
  unfold noneV
  go_enter Tryz.func38, Tryz.ntmps38
  go_wp2_with fail
  refine (HR.out _).mono ?_
  rintro e w1 ⟨f, rfl, hE, hm⟩
  have HE := Lib.hid hE
  have HM := Lib.hid hm
  clear hE hm
  go_wp2_with fail
  go_ret
  exact ⟨f, rfl, HE.out, M0.out.trans HM.out⟩
set_option maxRecDepth 100000 in
theorem get_nil (hL : Env F ad w) (sp : Option Addr) (gen : Nat) (id : Int) (key : ByteArray) : Calls Tryz.prog 11 #[noneV sp gen, .int .i64 id, .string key] w fun e w' => ∃ f, e = .returned (.tuple #[.string ⟨#[]⟩, .bool false, faultV f]) ∧ ErrC F ad w' (faultV f) [-1] 7 ∧ Ext w w' := by
  have m0 : Ext w (w.alloc (.cells #[.pointer none, .pointer sp, .int .u64 (gen : Int)] 34)) := (Mods.refl _ w).alloc _
  have HR := Lib.hid (fun op => check_nil (hL.mods m0.ext) op sp gen key)
  have M0 := Lib.hid m0
  clear hL m0
  unfold noneV at HR ⊢
  go_enter Tryz.func11, Tryz.ntmps11
  go_wp2_with fail
  refine (HR.out _).mono ?_
  rintro e w1 ⟨f, rfl, hE, hm⟩
  have HE := Lib.hid hE
  have HM := Lib.hid hm
  clear hE hm
  go_wp2_with fail
  refine bodyPost_ret (v := .tuple #[.string ⟨#[]⟩, .bool false, faultV f]) (by simp [results, Tryz.results11, go_sem]) rfl ?_
  exact ⟨f, rfl, HE.out, M0.out.trans HM.out⟩
set_option maxRecDepth 100000 in
theorem path_nil (hL : Env F ad w) (sp : Option Addr) (gen : Nat) (id : Int) (key : ByteArray) : Calls Tryz.prog 17 #[noneV sp gen, .int .i64 id, .string key] w fun e w' => ∃ f, e = .returned (.tuple #[.slice none 0 0, .bool false, faultV f]) ∧ ErrC F ad w' (faultV f) [-1] 7 ∧ Ext w w' := by
  have m0 : Ext w (w.alloc (.cells #[.pointer none, .pointer sp, .int .u64 (gen : Int)] 34)) := (Mods.refl _ w).alloc _
  have HR := Lib.hid (fun op => check_nil (hL.mods m0.ext) op sp gen key)
  have M0 := Lib.hid m0
  clear hL m0
  unfold noneV at HR ⊢
  go_enter Tryz.func17, Tryz.ntmps17
  go_wp2_with fail
  refine (HR.out _).mono ?_
  rintro e w1 ⟨f, rfl, hE, hm⟩
  have HE := Lib.hid hE
  have HM := Lib.hid hm
  clear hE hm
  go_wp2_with fail
  refine bodyPost_ret (v := .tuple #[.slice none 0 0, .bool false, faultV f]) (by simp [results, Tryz.results17, go_sem]) rfl ?_
  exact ⟨f, rfl, HE.out, M0.out.trans HM.out⟩
set_option maxRecDepth 100000 in
theorem load_nil (hL : Env F ad w) (sp : Option Addr) (gen : Nat) (id : Int) : Calls Tryz.prog 18 #[noneV sp gen, .int .i64 id] w fun e w' => ∃ f, e = .returned (.tuple #[nodeZ, faultV f]) ∧ ErrC F ad w' (faultV f) [-1] 7 ∧ Ext w w' := by
  have m0 : Ext w ((w.alloc (.cells #[.pointer none, .pointer sp, .int .u64 (gen : Int)] 34)).alloc (.cells #[.bool false, .slice none 0 0, .slice none 0 0, .slice none 0 0] 57)) := ((Mods.refl _ w).alloc _).alloc _
  have HR := Lib.hid (fun op => ready_nil (hL.plusX m0 (X := w.heap.size + 1) (by omega) (by simp)) op sp gen)
  have HB0 : Hid (Blk ((w.alloc (.cells #[.pointer none, .pointer sp, .int .u64 (gen : Int)] 34)).alloc (.cells #[.bool false, .slice none 0 0, .slice none 0 0, .slice none 0 0] 57)) (w.heap.size + 1) #[.bool false, .slice none 0 0, .slice none 0 0, .slice none 0 0] 57) := Lib.hid (heap_at (by simp))
  have M0 := Lib.hid m0
  clear hL m0
  unfold noneV at ⊢
  go_enter Tryz.func18, Tryz.ntmps18
  go_wp2_with fail
  refine (HR.out _).mono ?_
  rintro e w1 ⟨f, rfl, hE, hm⟩
  have hB := HB0.out.ext hm
  have hbl := hB.lt
  have c0 := hB.cell (o := 0) (v := .bool false) rfl
  have c1 := hB.cell (o := 1) (v := .slice none 0 0) rfl
  have c2 := hB.cell (o := 2) (v := .slice none 0 0) rfl
  have c3 := hB.cell (o := 3) (v := .slice none 0 0) rfl
  have cf := hB.frozen
  have m4 := Mods.set4 (F := fun k => k = w.heap.size + 1) (Mods.refl _ w1) (.inr rfl) (.bool false) (.slice none 0 0) (.slice none 0 0) (.slice none 0 0)
  have HE := Lib.hid (hE.unR (m4.mono (fun k hk => .inr hk)))
  have HBR := Lib.hid (hB.set4 (.bool false) (.slice none 0 0) (.slice none 0 0) (.slice none 0 0))
  have HM := Lib.hid ((M0.out.trans hm).trans' m4 (fun i hi e => by omega))
  clear hE hm hB m4
  go_wp2_with fail
  refine bodyPost_ret (results_row_tmp rfl _ _ (w.heap.size + 1) 57 #[.bool false, .slice none 0 0, .slice none 0 0, .slice none 0 0] _ rfl HBR.out Tryz.underlying57 rfl Tryz.nodeSize) rfl ?_
  exact ⟨f, rfl, HE.out, HM.out⟩
theorem Tryz.repSize : (Tryz.prog.info? 65).map (·.size) = some 3 := by kernel_rfl
abbrev repZ : Value := .agg #[.slice none 0 0, .slice none 0 0, .int .i64 0]
set_option maxRecDepth 100000 in
theorem walk_nil (hL : Env F ad w) (sp : Option Addr) (gen : Nat) (id : Int) : Calls Tryz.prog 20 #[noneV sp gen, .int .i64 id] w fun e w' => ∃ f, e = .returned (.tuple #[repZ, faultV f]) ∧ ErrC F ad w' (faultV f) [-1] 7 ∧ Ext w w' := by
  have m0 : Ext w ((w.alloc (.cells #[.pointer none, .pointer sp, .int .u64 (gen : Int)] 34)).alloc (.cells #[.slice none 0 0, .slice none 0 0, .int .i64 0] 65)) := ((Mods.refl _ w).alloc _).alloc _
  have HR := Lib.hid (fun op => ready_nil (hL.plusX m0 (X := w.heap.size + 1) (by omega) (by simp)) op sp gen)
  have HB0 : Hid (Blk ((w.alloc (.cells #[.pointer none, .pointer sp, .int .u64 (gen : Int)] 34)).alloc (.cells #[.slice none 0 0, .slice none 0 0, .int .i64 0] 65)) (w.heap.size + 1) #[.slice none 0 0, .slice none 0 0, .int .i64 0] 65) := Lib.hid (heap_at (by simp))
  have M0 := Lib.hid m0
  clear hL m0
  unfold noneV at ⊢
  go_enter Tryz.func20, Tryz.ntmps20
  go_wp2_with fail
  refine (HR.out _).mono ?_
  rintro e w1 ⟨f, rfl, hE, hm⟩
  have hB := HB0.out.ext hm
  have hbl := hB.lt
  have c0 := hB.cell (o := 0) (v := .slice none 0 0) rfl
  have c1 := hB.cell (o := 1) (v := .slice none 0 0) rfl
  have c2 := hB.cell (o := 2) (v := .int .i64 0) rfl
  have cf := hB.frozen
  have m4 := Mods.set3 (F := fun k => k = w.heap.size + 1) (Mods.refl _ w1) (R := w.heap.size + 1) (.inr rfl) (.slice none 0 0) (.slice none 0 0) (.int .i64 0)
  have HE := Lib.hid (hE.unR (m4.mono (fun k hk => .inr hk)))
  have HBR := Lib.hid (Blk.set3 hB (.slice none 0 0) (.slice none 0 0) (.int .i64 0))
  have HM := Lib.hid ((M0.out.trans hm).trans' m4 (fun i hi e => by omega))
  clear hE hm hB m4
  go_wp2_with fail
  refine bodyPost_ret (results_row_tmp rfl _ _ (w.heap.size + 1) 65 #[.slice none 0 0, .slice none 0 0, .int .i64 0] _ rfl HBR.out Tryz.underlying65 rfl Tryz.repSize) rfl ?_
  exact ⟨f, rfl, HE.out, HM.out⟩
set_option maxRecDepth 100000 in
theorem walk_zero (gen : Nat) : Calls Tryz.prog 20 #[pgV c s gen, .int .i64 0] w fun e w' => e = .returned (.tuple #[repZ, .nilIface]) ∧ Ext w w' := by
  have m0 : Ext w ((w.alloc (.cells #[.pointer (some ⟨c, 0, none⟩), .pointer (some ⟨s, 0, none⟩), .int .u64 (gen : Int)] 34)).alloc (.cells #[.slice none 0 0, .slice none 0 0, .int .i64 0] 65)) := ((Mods.refl _ w).alloc _).alloc _
  have HB0 : Hid (Blk ((w.alloc (.cells #[.pointer (some ⟨c, 0, none⟩), .pointer (some ⟨s, 0, none⟩), .int .u64 (gen : Int)] 34)).alloc (.cells #[.slice none 0 0, .slice none 0 0, .int .i64 0] 65)) (w.heap.size + 1) #[.slice none 0 0, .slice none 0 0, .int .i64 0] 65) := Lib.hid (heap_at (by simp))
  have M0 := Lib.hid m0
  have HR := fun op w' => ready_ok (c := c) (s := s) (w := w') op gen
  clear m0
  unfold pgV at HR ⊢
  go_enter Tryz.func20, Tryz.ntmps20
  go_wp2_with fail
  refine (HR _ _).mono ?_
  rintro e w1 ⟨rfl, hm⟩
  have hB := HB0.out.ext hm
  have hbl := hB.lt
  have c0 := hB.cell (o := 0) (v := .slice none 0 0) rfl
  have c1 := hB.cell (o := 1) (v := .slice none 0 0) rfl
  have c2 := hB.cell (o := 2) (v := .int .i64 0) rfl
  have cf := hB.frozen
  have m4 := Mods.set3 (F := fun k => k = w.heap.size + 1) (Mods.refl _ w1) (R := w.heap.size + 1) (.inr rfl) (.slice none 0 0) (.slice none 0 0) (.int .i64 0)
  have HBR := Lib.hid (Blk.set3 hB (.slice none 0 0) (.slice none 0 0) (.int .i64 0))
  have HM := Lib.hid ((M0.out.trans hm).trans' m4 (fun i hi e => by omega))
  clear hm hB m4 HR
  go_wp2_with fail
  refine bodyPost_ret (results_row_tmp rfl _ _ (w.heap.size + 1) 65 #[.slice none 0 0, .slice none 0 0, .int .i64 0] _ rfl HBR.out Tryz.underlying65 rfl Tryz.repSize) rfl ?_
  exact ⟨rfl, HM.out⟩
end
end Go.Proofs.YtmgfneijcfjlfaaGreatDoor
