/- remove.Delete of the last pair; law14.awake. | lookup's functions at a pager without a cache; lookup.Walk at an empty tree. | remove's functions at a pager without a space, at texts that are no keys, at pages that there are not. | RemoveRefuses holds. -/
import Derived.Test.YtpjpldedebddgaaGreatDoorK35
import Derived.Test.YtpjpldedebddgaaGreatDoorK24
import Derived.Test.YtpjpldedebddgaaGreatDoorK34
import Derived.Test.YtpjpldedebddgaaGreatDoorK21
import Derived.Test.YtpjpldedebddgaaGreatDoorK27
import Derived.Deep.RegionHeld3
namespace Go.Proofs.YtpjpldedebddgaaGreatDoor
open Go.RowKit
attribute [local go_sem ↓] Go.wp_at_zero Go.wp_at_succ
section
variable {P P' F F' H : Nat → Prop} {ad : Nat → Addr} {w w' : World} {c s : Nat} {G : GA} {l : List Nat}
set_option maxRecDepth 100000 in
set_option maxHeartbeats 1000000 in
theorem del1_any (hL : Env F ad w) (hP : ∀ k, P k → F k) (h : PgR F w P c s G l) (gen id : Nat) (hid : 0 < id) (key v : ByteArray) (hky : keyB key = true) (hk : G.knows (id : Int)) (hld : G.load (id : Int) = .inl (leaf1 key v)) (hgv : (spGive l (id : Int)).2 = none) :
    Calls Tryz.prog 61 #[pgV c s gen, .int .i64 (id : Int), .string key] w (PgDone F P ad w c s (G.drop id) (spGive l (id : Int)).1 (fun _ _ e => e = .returned (.tuple #[.int .i64 0, .bool true, .nilIface]))) := by
  obtain ⟨wa, hwa⟩ : ∃ wa, wa = w.alloc (.cells #[.pointer (some ⟨c, 0, none⟩), .pointer (some ⟨s, 0, none⟩), .int .u64 (gen : Int)] 48) := ⟨_, rfl⟩
  have hBa : Blk wa w.heap.size #[.pointer (some ⟨c, 0, none⟩), .pointer (some ⟨s, 0, none⟩), .int .u64 (gen : Int)] 48 := by rw [hwa]; exact Blk.new w _ _
  have ma : Ext w wa := by rw [hwa]; exact (Mods.refl _ w).alloc _
  obtain ⟨wb, hwb⟩ : ∃ wb, wb = wa.alloc (.cells #[.string key] 9) := ⟨_, rfl⟩
  have mb : Ext wa wb := by rw [hwb]; exact (Mods.refl _ wa).alloc _
  have hBb := hBa.ext mb
  have hK : Sl F wb 1 encS (.slice (some ⟨wa.heap.size, 0, none⟩) 1 1) [key] := by
    have hz := hL.mods ma.ext
    rw [hwb]
    exact Sl.one (Blk.new wa #[.string key] 9) (fun hf => by have := hz.lt _ hf; omega)
  have hz1 : wa.heap.size = w.heap.size + 1 := by rw [hwa]; simp
  rw [hz1] at hK
  have HC := remCheck1_any (c := c) (s := s) (w := wb) ⟨#[114, 101, 109, 111, 118, 101, 46, 68, 101, 108, 101, 116, 101]⟩ gen key hky _ hK
  have HBP : Hid (¬ P w.heap.size) := Lib.hid (fun hp => by have := h.bd _ hp; omega)
  have hne : key.toList ≠ [] := fun e => by
    have := (keyB_iff key).1 hky
    have h0 : key.size = 0 := by rw [← size_toList, ← ByteArray.toList_eq, e]; rfl
    omega
  have hne3 : key.toList.isEmpty = false := by
    cases h : key.toList with
    | nil => exact absurd h hne
    | cons _ _ => rfl
  have HN := Lib.hid (Nxt.ext hL hP (ma.trans mb))
  have HG := Lib.hid (h.at (ma.trans mb))
  have HLD := Lib.hid hld
  have HWB := Lib.hid hwb
  have HWA := Lib.hid hwa
  have HBB := Lib.hid hBb
  have a0 := hBa.cell (o := 0) rfl
  have a1 := hBa.cell (o := 1) rfl
  have a2 := hBa.cell (o := 2) rfl
  unfold pgV at HC ⊢
  have HC := Lib.hid HC
  clear hL hP h hwa hwb hK ma mb hBa hBb hne hld
  go_enter Tryz.func61, Tryz.ntmps61
  go_wp2_with fail
  rw [← HWA.out, ← HWB.out]
  refine HC.out.mono ?_
  rintro e w1 ⟨rfl, hm1⟩
  have hN1 := HN.out.trans (Nxt.ext HN.out.env HN.out.sub hm1)
  have hG1 := HG.out.at hm1
  have HTK := take1_any hN1.env hN1.sub hG1 gen id key v hk HLD.out
  unfold pgV at HTK
  have HTK := Lib.hid HTK
  have hB1 := HBB.out.ext hm1
  have b0 := hB1.cell (o := 0) rfl
  have b1 := hB1.cell (o := 1) rfl
  have b2 := hB1.cell (o := 2) rfl
  have HB1 := Lib.hid hB1
  have HN1 := Lib.hid hN1
  have i1 : ¬ (id : Int) = 0 := by omega
  clear hm1 hB1 hG1 hN1 a0 a1 a2
  go_wp2_with fail
  refine HTK.out.mono ?_
  rintro e w2 ⟨P2, F2, hG2, hN2, ea, ec, ka, kc, ia, ic, rfl⟩
  obtain ⟨w3, hw3⟩ : ∃ w3, w3 = w2.alloc (.cells #[.bool true, .slice ea 0 ec, .slice ka 0 kc, .slice ia 0 ic, .bool true] 178) := ⟨_, rfl⟩
  have m3 : Ext w2 w3 := by rw [hw3]; exact (Mods.refl _ w2).alloc _
  have hB3 := (hN2.blk HB1.out HBP.out).ext m3
  have b0 := hB3.cell (o := 0) rfl
  have b1 := hB3.cell (o := 1) rfl
  have b2 := hB3.cell (o := 2) rfl
  have hN3 := (HN1.out.trans hN2).trans (Nxt.ext hN2.env hN2.sub m3)
  have hG3 := hG2.at m3
  have HST := remSettle0_any hN3.env hN3.sub hG3 gen id hgv ea ec (.slice ka 0 kc) (.slice ia 0 ic)
  unfold pgV at HST
  have HST := Lib.hid HST
  have HN3 := Lib.hid hN3
  clear hG2 hN2 hG3 hN3 hB3 m3
  subst hw3
  go_wp2_with fail
  refine HST.out.mono ?_
  rintro e w4 ⟨P4, F4, hG4, hN4, rfl⟩
  have HN4 := Lib.hid (HN3.out.trans hN4)
  have HG4 := Lib.hid hG4
  clear hG4 hN4
  go_wp2_with fail
  refine bodyPost_ret (v := .tuple #[.int .i64 0, .bool true, .nilIface]) (by simp [results, Tryz.results61, go_sem]) rfl ?_
  exact ⟨P4, F4, HG4.out, HN4.out, rfl⟩
end
theorem give14 : (spGive (downL (G0 16) (spNew 16) 0 (leaf1 ⟨#[97]⟩ ⟨#[120]⟩)) ((2 : Nat) : Int)).2 = none ∧ spCount (spGive (downL (G0 16) (spNew 16) 0 (leaf1 ⟨#[97]⟩ ⟨#[120]⟩)) ((2 : Nat) : Int)).1 = 14 := by
  have hd := down0_some (G := G0 16) (key := ⟨#[97]⟩) (v := ⟨#[120]⟩) (by decide) (by decide) (Nat.le_refl 256) (free_new 16 (by omega))
  have h1 : downOk (leaf1 ⟨#[97]⟩ ⟨#[120]⟩) (G0 16).size := downI_ok hd
  unfold downL
  rw [if_pos h1]
  unfold placeL
  decide
set_option maxRecDepth 100000 in
set_option maxHeartbeats 2000000 in
theorem awake14_any {ad : Nat → Addr} {w : World} (hL : Env NoB ad w) : Calls Tryz.prog 22 #[] w fun e w' => e = .returned (.bool true) ∧ Ext w w' := by
  have HL := Lib.hid hL
  clear hL
  go_enter Tryz.func22, Tryz.ntmps22
  go_wp2_with fail
  refine (pager14_any HL.out 16 (by omega) (by omega)).mono ?_
  rintro e w1 ⟨c, s, P, F, rfl, hG, hN⟩
  have hS := LG.startZ (gen := 5) hG hN 5 rfl
  have t0 := hS.c0
  have t1 := hS.c1
  have t2 : _ = some (Value.int .u64 5) := hS.c2
  have HPU := Lib.hid (put0_any hS.env hS.sub hS.pg 5 (by omega) ⟨#[97]⟩ ⟨#[120]⟩ (by decide) (by decide) (low_new 16 (by omega)) (by rw [len_new 16 (by omega)]; exact Nat.le_refl 16) (by show 0 + 10 ≤ 1000000; omega) 2 (free_new 16 (by omega)))
  have HS := Lib.hid hS
  rw [pgV5] at HPU ⊢
  clear hG hN hS
  go_wp2_with fail
  refine HPU.out.mono ?_
  rintro e w2 ⟨P2, F2, hG2, hN2, rfl⟩
  have hS2 := HS.out.step hN2 hG2
  have t0 := hS2.c0
  have t1 := hS2.c1
  have t2 : _ = some (Value.int .u64 5) := hS2.c2
  have hnd := GA.node_load (down_node (G := G0 16) (gen := 5) (down0_some (G := G0 16) (l := spNew 16) (key := ⟨#[97]⟩) (v := ⟨#[120]⟩) (by decide) (by decide) (Nat.le_refl 256) (free_new 16 (by omega))) (by show 2 < 16; omega))
  have HD := del1_any hS2.env hS2.sub hS2.pg 5 2 (by omega) ⟨#[97]⟩ ⟨#[120]⟩ (by decide) hnd.1 hnd.2 give14.1
  clear hnd
  have HS2 := Lib.hid hS2
  rw [pgV5] at HD
  have HD := Lib.hid HD
  clear hG2 hN2 hS2
  go_wp2_with fail
  refine HD.out.mono ?_
  rintro e w3 hd
  obtain ⟨P3, F3, hS3, rfl⟩ := HS2.out.done hd
  have HX := Lib.hid hS3.ext0
  have HFR := pgFree hS3.pg
  rw [give14.2] at HFR
  have HFR := Lib.hid HFR
  have t1 := hS3.c1
  clear hd hS3 t0 t2
  go_wp2_with fail
  refine HFR.out.mono ?_
  rintro e w4 ⟨rfl, rfl⟩
  go_wp2_with fail
  go_ret
  exact ⟨rfl, HX.out⟩
end Go.Proofs.YtpjpldedebddgaaGreatDoor
namespace Go.Proofs.YtpjpldedebddgaaGreatDoor
open Go.RowKit
attribute [local go_sem ↓] Go.wp_at_zero Go.wp_at_succ
section
variable {P P' F F' : Nat → Prop} {ad : Nat → Addr} {w w' : World} {c s : Nat} {G : GA} {l : List Nat}
abbrev noneV (sp : Option Addr) (gen : Nat) : Value := .agg #[.pointer none, .pointer sp, .int .u64 (gen : Int)]
set_option maxRecDepth 100000 in
theorem check_nil (hL : Env F ad w) (op : ByteArray) (sp : Option Addr) (gen : Nat) (key : ByteArray) : Calls Tryz.prog 115 #[.string op, noneV sp gen, .string key] w fun e w' => ∃ f, e = .returned (faultV f) ∧ ErrC F ad w' (faultV f) [-1] 7 ∧ Ext w w' := by
  have m0 : Ext w (w.alloc (.cells #[.pointer none, .pointer sp, .int .u64 (gen : Int)] 48)) := (Mods.refl _ w).alloc _
  have HR := Lib.hid (fun op => ready_nil (hL.mods m0.ext) op sp gen)
  have M0 := Lib.hid m0
  clear hL m0
  unfold noneV
  go_enter Tryz.func115, Tryz.ntmps115
  go_wp2_with fail
  refine (HR.out _).mono ?_
  rintro e w1 ⟨f, rfl, hE, hm⟩
  have HE := Lib.hid hE
  have HM := Lib.hid hm
  clear hE hm
  go_wp2_with fail
  go_ret
  exact ⟨f, rfl, HE.out, M0.out.trans HM.out⟩
set_option maxRecDepth 100000 in
theorem get_nil (hL : Env F ad w) (sp : Option Addr) (gen : Nat) (id : Int) (key : ByteArray) : Calls Tryz.prog 69 #[noneV sp gen, .int .i64 id, .string key] w fun e w' => ∃ f, e = .returned (.tuple #[.string ⟨#[]⟩, .bool false, faultV f]) ∧ ErrC F ad w' (faultV f) [-1] 7 ∧ Ext w w' := by
  have m0 : Ext w (w.alloc (.cells #[.pointer none, .pointer sp, .int .u64 (gen : Int)] 48)) := (Mods.refl _ w).alloc _
  have HR := Lib.hid (fun op => check_nil (hL.mods m0.ext) op sp gen key)
  have M0 := Lib.hid m0
  clear hL m0
  unfold noneV at HR ⊢
  go_enter Tryz.func69, Tryz.ntmps69
  go_wp2_with fail
  refine (HR.out _).mono ?_
  rintro e w1 ⟨f, rfl, hE, hm⟩
  have HE := Lib.hid hE
  have HM := Lib.hid hm
  clear hE hm
  go_wp2_with fail
  refine bodyPost_ret (v := .tuple #[.string ⟨#[]⟩, .bool false, faultV f]) (by simp [results, Tryz.results69, go_sem]) rfl ?_
  exact ⟨f, rfl, HE.out, M0.out.trans HM.out⟩
set_option maxRecDepth 100000 in
theorem load_nil (hL : Env F ad w) (sp : Option Addr) (gen : Nat) (id : Int) : Calls Tryz.prog 137 #[noneV sp gen, .int .i64 id] w fun e w' => ∃ f, e = .returned (.tuple #[nodeZ, faultV f]) ∧ ErrC F ad w' (faultV f) [-1] 7 ∧ Ext w w' := by
  have m0 : Ext w ((w.alloc (.cells #[.pointer none, .pointer sp, .int .u64 (gen : Int)] 48)).alloc (.cells #[.bool false, .slice none 0 0, .slice none 0 0, .slice none 0 0] 26)) := ((Mods.refl _ w).alloc _).alloc _
  have HR := Lib.hid (fun op => ready_nil (hL.plusX m0 (X := w.heap.size + 1) (by omega) (by simp)) op sp gen)
  have HB0 : Hid (Blk ((w.alloc (.cells #[.pointer none, .pointer sp, .int .u64 (gen : Int)] 48)).alloc (.cells #[.bool false, .slice none 0 0, .slice none 0 0, .slice none 0 0] 26)) (w.heap.size + 1) #[.bool false, .slice none 0 0, .slice none 0 0, .slice none 0 0] 26) := Lib.hid (heap_at (by simp))
  have M0 := Lib.hid m0
  clear hL m0
  unfold noneV at ⊢
  go_enter Tryz.func137, Tryz.ntmps137
  go_wp2_with fail
  refine (HR.out _).mono ?_
  rintro e w1 ⟨f, rfl, hE, hm⟩
  have hB := HB0.out.ext hm
  have hbl := hB.lt
  have c0 := hB.cell (o := 0) (v := .bool false) rfl
  have c1 := hB.cell (o := 1) (v := .slice none 0 0) rfl
  have c2 := hB.cell (o := 2) (v := .slice none 0 0) rfl
  have c3 := hB.cell (o := 3) (v := .slice none 0 0) rfl
  have cf := hB.frozen
  have m4 := Mods.set4 (F := fun k => k = w.heap.size + 1) (Mods.refl _ w1) (.inr rfl) (.bool false) (.slice none 0 0) (.slice none 0 0) (.slice none 0 0)
  have HE := Lib.hid (hE.unR (m4.mono (fun k hk => .inr hk)))
  have HBR := Lib.hid (hB.set4 (.bool false) (.slice none 0 0) (.slice none 0 0) (.slice none 0 0))
  have HM := Lib.hid ((M0.out.trans hm).trans' m4 (fun i hi e => by omega))
  clear hE hm hB m4
  go_wp2_with fail
  refine bodyPost_ret (results_row_tmp rfl _ _ (w.heap.size + 1) 26 #[.bool false, .slice none 0 0, .slice none 0 0, .slice none 0 0] _ rfl HBR.out Tryz.underlying26 rfl Tryz.nodeSize) rfl ?_
  exact ⟨f, rfl, HE.out, HM.out⟩
theorem Tryz.repSize : (Tryz.prog.info? 81).map (·.size) = some 3 := by kernel_rfl
abbrev repZ : Value := .agg #[.slice none 0 0, .slice none 0 0, .int .i64 0]
set_option maxRecDepth 100000 in
theorem walk_nil (hL : Env F ad w) (sp : Option Addr) (gen : Nat) (id : Int) : Calls Tryz.prog 47 #[noneV sp gen, .int .i64 id] w fun e w' => ∃ f, e = .returned (.tuple #[repZ, faultV f]) ∧ ErrC F ad w' (faultV f) [-1] 7 ∧ Ext w w' := by
  have m0 : Ext w ((w.alloc (.cells #[.pointer none, .pointer sp, .int .u64 (gen : Int)] 48)).alloc (.cells #[.slice none 0 0, .slice none 0 0, .int .i64 0] 81)) := ((Mods.refl _ w).alloc _).alloc _
  have HR := Lib.hid (fun op => ready_nil (hL.plusX m0 (X := w.heap.size + 1) (by omega) (by simp)) op sp gen)
  have HB0 : Hid (Blk ((w.alloc (.cells #[.pointer none, .pointer sp, .int .u64 (gen : Int)] 48)).alloc (.cells #[.slice none 0 0, .slice none 0 0, .int .i64 0] 81)) (w.heap.size + 1) #[.slice none 0 0, .slice none 0 0, .int .i64 0] 81) := Lib.hid (heap_at (by simp))
  have M0 := Lib.hid m0
  clear hL m0
  unfold noneV at ⊢
  go_enter Tryz.func47, Tryz.ntmps47
  go_wp2_with fail
  refine (HR.out _).mono ?_
  rintro e w1 ⟨f, rfl, hE, hm⟩
  have hB := HB0.out.ext hm
  have hbl := hB.lt
  have c0 := hB.cell (o := 0) (v := .slice none 0 0) rfl
  have c1 := hB.cell (o := 1) (v := .slice none 0 0) rfl
  have c2 := hB.cell (o := 2) (v := .int .i64 0) rfl
  have cf := hB.frozen
  have m4 := Mods.set3 (F := fun k => k = w.heap.size + 1) (Mods.refl _ w1) (R := w.heap.size + 1) (.inr rfl) (.slice none 0 0) (.slice none 0 0) (.int .i64 0)
  have HE := Lib.hid (hE.unR (m4.mono (fun k hk => .inr hk)))
  have HBR := Lib.hid (Blk.set3 hB (.slice none 0 0) (.slice none 0 0) (.int .i64 0))
  have HM := Lib.hid ((M0.out.trans hm).trans' m4 (fun i hi e => by omega))
  clear hE hm hB m4
  go_wp2_with fail
  refine bodyPost_ret (results_row_tmp rfl _ _ (w.heap.size + 1) 81 #[.slice none 0 0, .slice none 0 0, .int .i64 0] _ rfl HBR.out Tryz.underlying81 rfl Tryz.repSize) rfl ?_
  exact ⟨f, rfl, HE.out, HM.out⟩
set_option maxRecDepth 100000 in
theorem walk_zero (gen : Nat) : Calls Tryz.prog 47 #[pgV c s gen, .int .i64 0] w fun e w' => e = .returned (.tuple #[repZ, .nilIface]) ∧ Ext w w' := by
  have m0 : Ext w ((w.alloc (.cells #[.pointer (some ⟨c, 0, none⟩), .pointer (some ⟨s, 0, none⟩), .int .u64 (gen : Int)] 48)).alloc (.cells #[.slice none 0 0, .slice none 0 0, .int .i64 0] 81)) := ((Mods.refl _ w).alloc _).alloc _
  have HB0 : Hid (Blk ((w.alloc (.cells #[.pointer (some ⟨c, 0, none⟩), .pointer (some ⟨s, 0, none⟩), .int .u64 (gen : Int)] 48)).alloc (.cells #[.slice none 0 0, .slice none 0 0, .int .i64 0] 81)) (w.heap.size + 1) #[.slice none 0 0, .slice none 0 0, .int .i64 0] 81) := Lib.hid (heap_at (by simp))
  have M0 := Lib.hid m0
  have HR := fun op w' => ready_ok (c := c) (s := s) (w := w') op gen
  clear m0
  unfold pgV at HR ⊢
  go_enter Tryz.func47, Tryz.ntmps47
  go_wp2_with fail
  refine (HR _ _).mono ?_
  rintro e w1 ⟨rfl, hm⟩
  have hB := HB0.out.ext hm
  have hbl := hB.lt
  have c0 := hB.cell (o := 0) (v := .slice none 0 0) rfl
  have c1 := hB.cell (o := 1) (v := .slice none 0 0) rfl
  have c2 := hB.cell (o := 2) (v := .int .i64 0) rfl
  have cf := hB.frozen
  have m4 := Mods.set3 (F := fun k => k = w.heap.size + 1) (Mods.refl _ w1) (R := w.heap.size + 1) (.inr rfl) (.slice none 0 0) (.slice none 0 0) (.int .i64 0)
  have HBR := Lib.hid (Blk.set3 hB (.slice none 0 0) (.slice none 0 0) (.int .i64 0))
  have HM := Lib.hid ((M0.out.trans hm).trans' m4 (fun i hi e => by omega))
  clear hm hB m4 HR
  go_wp2_with fail
  refine bodyPost_ret (results_row_tmp rfl _ _ (w.heap.size + 1) 81 #[.slice none 0 0, .slice none 0 0, .int .i64 0] _ rfl HBR.out Tryz.underlying81 rfl Tryz.repSize) rfl ?_
  exact ⟨rfl, HM.out⟩
end
end Go.Proofs.YtpjpldedebddgaaGreatDoor
namespace Go.Proofs.YtpjpldedebddgaaGreatDoor
open Go.RowKit
attribute [local go_sem ↓] Go.wp_at_zero Go.wp_at_succ
abbrev noSp (c : Nat) (gen : Nat) : Value := .agg #[.pointer (some ⟨c, 0, none⟩), .pointer none, .int .u64 (gen : Int)]
section
variable {P P' F F' : Nat → Prop} {ad : Nat → Addr} {w w' : World} {c s : Nat} {G : GA} {l : List Nat}
set_option maxRecDepth 100000 in
theorem remCheck_nosp (hL : Env F ad w) (op : ByteArray) (c gen : Nat) (kv : Value) :
    Calls Tryz.prog 108 #[.string op, noSp c gen, kv] w fun e w' => ∃ f, e = .returned (faultV f) ∧ ErrC F ad w' (faultV f) [-1] 7 ∧ Ext w w' := by
  have m0 : Ext w (w.alloc (.cells #[.pointer (some ⟨c, 0, none⟩), .pointer none, .int .u64 (gen : Int)] 48)) := (Mods.refl _ w).alloc _
  have hL0 := hL.mods m0.ext
  have g7 := hL0.c7
  have HL := Lib.hid hL0
  have M0 := Lib.hid m0
  clear hL hL0 m0
  unfold noSp
  go_enter Tryz.func108, Tryz.ntmps108
  go_wp2_with fail
  refine (new_any HL.out _ _ [] 7 (.sent 7 (by decide) (by decide))).mono ?_
  rintro e w1 ⟨f, rfl, hE, hm⟩
  have HE := Lib.hid hE
  have HM := Lib.hid hm
  clear hE hm
  go_wp2_with fail
  go_ret
  exact ⟨f, rfl, HE.out, M0.out.trans HM.out⟩
set_option maxRecDepth 100000 in
theorem remCheckBad_any (hL : Env F ad w) (op : ByteArray) (gen : Nat) (key : ByteArray) (hk : keyB key = false) (hne3 : key.toList.isEmpty = false) (kv : Value) (hkv : Sl F w 1 encS kv [key]) :
    Calls Tryz.prog 108 #[.string op, pgV c s gen, kv] w fun e w' => ∃ f, e = .returned (faultV f) ∧ ErrC F ad w' (faultV f) [-1] 2 ∧ Ext w w' := by
  have m0 : Ext w (w.alloc (.cells #[.pointer (some ⟨c, 0, none⟩), .pointer (some ⟨s, 0, none⟩), .int .u64 (gen : Int)] 48)) := (Mods.refl _ w).alloc _
  obtain ⟨ka, kc, rfl, k1, k2, k3, kk⟩ := hkv
  obtain ⟨b, off, rfl, _, _, hc⟩ := Sl.at kk m0 (fun _ _ f => f.elim) 0 (by simp)
  have c0 := hc 0 (.string key) rfl
  simp only [Nat.zero_mul, Nat.add_zero] at c0
  have hL0 := hL.mods m0.ext
  have g2 := hL0.c2
  have HL := Lib.hid hL0
  have M0 := Lib.hid m0
  have HK := Lib.hid (key_any key)
  rw [hk] at HK
  unfold pgV
  clear m0 kk hc hk hL hL0
  go_enter Tryz.func108, Tryz.ntmps108
  go_wp2_with fail
  go_loopg [22] 1 (fun m i wr => ∃ k : Nat, k + m = 1 ∧ i = .int .i64 (k : Int) ∧ Hid (wr = w.alloc (.cells #[.pointer (some ⟨c, 0, none⟩), .pointer (some ⟨s, 0, none⟩), .int .u64 (gen : Int)] 48)) ∧ k = 0)
  case atStart => exact ⟨0, by omega, rfl, Lib.hid rfl, rfl⟩
  case round =>
    obtain ⟨k, hkm, rfl, HW, rfl⟩ := hrel
    obtain rfl := HW.out
    go_wp2_with fail
    refine (HK.out _).mono ?_
    rintro e w1 ⟨rfl, rfl⟩
    go_wp2_with fail
    refine (new_any HL.out _ _ [] 2 (.sent 2 (by decide) (by decide))).mono ?_
    rintro e w1 ⟨f, rfl, hE, hm⟩
    have HE := Lib.hid hE
    have HM := Lib.hid hm
    clear hE hm
    go_wp2_with fail
    go_ret
    exact ⟨f, rfl, HE.out, M0.out.trans HM.out⟩
set_option maxRecDepth 100000 in
theorem remCheck0_any (op : ByteArray) (gen : Nat) (kv : Value) (hkv : Sl F w 1 encS kv [(⟨#[]⟩ : ByteArray)]) :
    Calls Tryz.prog 108 #[.string op, pgV c s gen, kv] w fun e w' => e = .returned .nilIface ∧ Ext w w' := by
  have m0 : Ext w (w.alloc (.cells #[.pointer (some ⟨c, 0, none⟩), .pointer (some ⟨s, 0, none⟩), .int .u64 (gen : Int)] 48)) := (Mods.refl _ w).alloc _
  obtain ⟨ka, kc, rfl, k1, k2, k3, kk⟩ := hkv
  obtain ⟨b, off, rfl, _, _, hc⟩ := Sl.at kk m0 (fun _ _ f => f.elim) 0 (by simp)
  have c0 := hc 0 (.string ⟨#[]⟩) rfl
  simp only [Nat.zero_mul, Nat.add_zero] at c0
  have M0 := Lib.hid m0
  unfold pgV
  clear m0 kk hc
  go_enter Tryz.func108, Tryz.ntmps108
  go_wp2_with fail
  go_loopg [22] 1 (fun m i wr => ∃ k : Nat, k + m = 1 ∧ i = .int .i64 (k : Int) ∧ Hid (wr = w.alloc (.cells #[.pointer (some ⟨c, 0, none⟩), .pointer (some ⟨s, 0, none⟩), .int .u64 (gen : Int)] 48)))
  case atStart => exact ⟨0, by omega, rfl, Lib.hid rfl⟩
  case round =>
    obtain ⟨k, hkm, rfl, HW⟩ := hrel
    obtain rfl := HW.out
    rcases Nat.eq_zero_or_pos k with hk0 | hk0
    · subst hk0
      go_wp2_with fail
      go_roundg 0
      case measure => omega
      case rel => exact ⟨1, by omega, by go_num, Lib.hid rfl⟩
    · obtain rfl : k = 1 := by omega
      go_wp2_with fail
      go_ret
      exact ⟨rfl, M0.out⟩
/-- remove.Delete's answer where nothing is deleted. -/
def DelNo (F : Nat → Prop) (ad : Nat → Addr) (w : World) (k : Nat) (e : Ending) (w' : World) : Prop :=
  ∃ f el, e = .returned (.tuple #[.int .i64 0, .bool false, faultV f]) ∧ ErrC F ad w' (faultV f) el k ∧ Ext w w'
set_option maxRecDepth 100000 in
theorem delNoSp_any (hL : Env F ad w) (c gen : Nat) (root : Int) (key : ByteArray) :
    Calls Tryz.prog 61 #[noSp c gen, .int .i64 root, .string key] w (DelNo F ad w 7) := by
  have m0 : Ext w ((w.alloc (.cells #[.pointer (some ⟨c, 0, none⟩), .pointer none, .int .u64 (gen : Int)] 48)).alloc (.cells #[.string key] 9)) := ((Mods.refl _ w).alloc _).alloc _
  have HC := Lib.hid (fun op kv => remCheck_nosp (hL.mods m0.ext) op c gen kv)
  have M0 := Lib.hid m0
  unfold noSp at HC ⊢
  clear hL m0
  go_enter Tryz.func61, Tryz.ntmps61
  go_wp2_with fail
  refine (HC.out _ _).mono ?_
  rintro e w1 ⟨f, rfl, hE, hm⟩
  have HE := Lib.hid hE
  have HM := Lib.hid hm
  clear hE hm
  go_wp2_with fail
  refine bodyPost_ret (v := .tuple #[.int .i64 0, .bool false, faultV f]) (by simp [results, Tryz.results61, go_sem]) rfl ?_
  exact ⟨f, _, rfl, HE.out, M0.out.trans HM.out⟩
theorem delRow (hL : Env F ad w) (c s gen : Nat) (key : ByteArray) : Sl F ((w.alloc (.cells #[.pointer (some ⟨c, 0, none⟩), .pointer (some ⟨s, 0, none⟩), .int .u64 (gen : Int)] 48)).alloc (.cells #[.string key] 9)) 1 encS (.slice (some ⟨w.heap.size + 1, 0, none⟩) 1 1) [key] := by
  obtain ⟨wa, hwa⟩ : ∃ wa, wa = w.alloc (.cells #[.pointer (some ⟨c, 0, none⟩), .pointer (some ⟨s, 0, none⟩), .int .u64 (gen : Int)] 48) := ⟨_, rfl⟩
  have ma : Ext w wa := by rw [hwa]; exact (Mods.refl _ w).alloc _
  have hz := hL.mods ma.ext
  have hz1 : wa.heap.size = w.heap.size + 1 := by rw [hwa]; simp
  rw [← hwa, ← hz1]
  exact Sl.one (Blk.new wa #[.string key] 9) (fun hf => by have := hz.lt _ hf; omega)
set_option maxRecDepth 100000 in
theorem delBad_any (hL : Env F ad w) (gen : Nat) (root : Int) (key : ByteArray) (hk : keyB key = false) :
    Calls Tryz.prog 61 #[pgV c s gen, .int .i64 root, .string key] w (DelNo F ad w 2) := by
  have m0 : Ext w ((w.alloc (.cells #[.pointer (some ⟨c, 0, none⟩), .pointer (some ⟨s, 0, none⟩), .int .u64 (gen : Int)] 48)).alloc (.cells #[.string key] 9)) := ((Mods.refl _ w).alloc _).alloc _
  have hK := delRow hL c s gen key
  have hL0 := hL.mods m0.ext
  have M0 := Lib.hid m0
  cases hne : key.toList.isEmpty with
  | false =>
    have HC := remCheckBad_any (c := c) (s := s) hL0 ⟨#[114, 101, 109, 111, 118, 101, 46, 68, 101, 108, 101, 116, 101]⟩ gen key hk hne _ hK
    unfold pgV at HC ⊢
    have HC := Lib.hid HC
    clear hL hL0 m0 hK hk hne
    go_enter Tryz.func61, Tryz.ntmps61
    go_wp2_with fail
    refine HC.out.mono ?_
    rintro e w1 ⟨f, rfl, hE, hm⟩
    have HE := Lib.hid hE
    have HM := Lib.hid hm
    clear hE hm
    go_wp2_with fail
    refine bodyPost_ret (v := .tuple #[.int .i64 0, .bool false, faultV f]) (by simp [results, Tryz.results61, go_sem]) rfl ?_
    exact ⟨f, _, rfl, HE.out, M0.out.trans HM.out⟩
  | true =>
    have he : key = ⟨#[]⟩ := by
      refine toList_inj ?_
      rw [List.isEmpty_iff.1 hne]
      simp [ByteArray.toList_eq]
    subst he
    have HC := remCheck0_any (c := c) (s := s) ⟨#[114, 101, 109, 111, 118, 101, 46, 68, 101, 108, 101, 116, 101]⟩ gen _ hK
    unfold pgV at HC ⊢
    have HC := Lib.hid HC
    have HL := Lib.hid hL0
    clear hL hL0 m0 hK hk hne
    go_enter Tryz.func61, Tryz.ntmps61
    go_wp2_with fail
    refine HC.out.mono ?_
    rintro e w1 ⟨rfl, hm⟩
    have hL1 := HL.out.mods hm.ext
    have g2 := hL1.c2
    have HL1 := Lib.hid hL1
    have HM := Lib.hid hm
    clear hm hL1
    go_wp2_with fail
    refine (new_any HL1.out _ _ [] 2 (.sent 2 (by decide) (by decide))).mono ?_
    rintro e w2 ⟨f, rfl, hE, hm⟩
    have HE := Lib.hid hE
    have HM2 := Lib.hid hm
    clear hE hm
    go_wp2_with fail
    refine bodyPost_ret (v := .tuple #[.int .i64 0, .bool false, faultV f]) (by simp [results, Tryz.results61, go_sem]) rfl ?_
    exact ⟨f, _, rfl, HE.out, M0.out.trans (HM.out.trans HM2.out)⟩
theorem key_ne {key : ByteArray} (hk : keyB key = true) : key.toList.isEmpty = false := by
  cases h : key.toList with
  | nil =>
    have := (keyB_iff key).1 hk
    have h0 : key.size = 0 := by rw [← size_toList, ← ByteArray.toList_eq, h]; rfl
    omega
  | cons _ _ => rfl
set_option maxRecDepth 100000 in
theorem del0_any (hL : Env F ad w) (gen : Nat) (key : ByteArray) (hk : keyB key = true) :
    Calls Tryz.prog 61 #[pgV c s gen, .int .i64 0, .string key] w fun e w' => e = .returned (.tuple #[.int .i64 0, .bool false, .nilIface]) ∧ Ext w w' := by
  have m0 : Ext w ((w.alloc (.cells #[.pointer (some ⟨c, 0, none⟩), .pointer (some ⟨s, 0, none⟩), .int .u64 (gen : Int)] 48)).alloc (.cells #[.string key] 9)) := ((Mods.refl _ w).alloc _).alloc _
  have hK := delRow hL c s gen key
  have M0 := Lib.hid m0
  have HC := remCheck1_any (c := c) (s := s) ⟨#[114, 101, 109, 111, 118, 101, 46, 68, 101, 108, 101, 116, 101]⟩ gen key hk _ hK
  have hne := key_ne hk
  unfold pgV at HC ⊢
  have HC := Lib.hid HC
  clear hL m0 hK hk
  go_enter Tryz.func61, Tryz.ntmps61
  go_wp2_with fail
  refine HC.out.mono ?_
  rintro e w1 ⟨rfl, hm⟩
  have HM := Lib.hid hm
  clear hm
  go_wp2_with fail
  refine bodyPost_ret (v := .tuple #[.int .i64 0, .bool false, .nilIface]) (by simp [results, Tryz.results61, go_sem]) rfl ?_
  exact ⟨rfl, M0.out.trans HM.out⟩
set_option maxRecDepth 100000 in
set_option maxHeartbeats 1000000 in
theorem takeMiss_any (hL : Env F ad w) (hP : ∀ k, P k → F k) (h : PgR F w P c s G l) (gen : Nat) (id : Int) (key : ByteArray) (hk : G.knows id) (el : List Int) (kk : Nat) (hld : G.load id = .inr (el, kk)) :
    Calls Tryz.prog 109 #[pgV c s gen, .int .i64 id, .int .i64 1, .string key] w (PgDone F P ad w c s G l (fun F' w' e => ∃ f, e = .returned (.tuple #[.agg remZc, faultV f]) ∧ ErrC F' ad w' (faultV f) el kk)) := by
  obtain ⟨w1, hw1⟩ : ∃ w1, w1 = (w.alloc (.cells #[.pointer (some ⟨c, 0, none⟩), .pointer (some ⟨s, 0, none⟩), .int .u64 (gen : Int)] 48)).alloc (.cells remZc 178) := ⟨_, rfl⟩
  have m1 : Ext w w1 := by rw [hw1]; exact ((Mods.refl _ w).alloc _).alloc _
  have hz : w1.heap.size = w.heap.size + 2 := by rw [hw1]; simp
  have hN : Nxt P P F (fun k => F k ∨ (w.heap.size ≤ k ∧ k < w1.heap.size)) ad w w1 := Nxt.new hL hP (Q := fun k => w.heap.size ≤ k ∧ k < w1.heap.size) m1 (fun k hk => hk.1) (fun k hk => hk.2)
  have HR := Lib.hid (show VarR (fun k => F k ∨ (w.heap.size ≤ k ∧ k < w1.heap.size)) P w w1 (w.heap.size + 1) remZc 178 from ⟨by rw [hw1]; exact heap_at (by simp), .inr ⟨by omega, by omega⟩, fun hp => by have := h.bd _ hp; omega, by omega⟩)
  have hB : Blk w1 w.heap.size #[.pointer (some ⟨c, 0, none⟩), .pointer (some ⟨s, 0, none⟩), .int .u64 (gen : Int)] 48 := by rw [hw1]; exact (Blk.new w _ _).alloc _
  have hG := h.plusNew hP (Q := fun k => w.heap.size ≤ k ∧ k < w1.heap.size) m1 (fun k hk => hk.1)
  have HLD := load_any hN.env hN.sub hG gen id hk
  rw [hld] at HLD
  unfold pgV at HLD
  have HLD := Lib.hid HLD
  have HN := Lib.hid hN
  have HW1 := Lib.hid hw1
  have b0 := hB.cell (o := 0) rfl
  have b1 := hB.cell (o := 1) rfl
  have b2 := hB.cell (o := 2) rfl
  unfold pgV
  clear hL hP h hk hld m1 hw1 hN hG hB
  go_enter Tryz.func109, Tryz.ntmps109
  go_wp2_with fail
  rw [← HW1.out]
  refine HLD.out.mono ?_
  rintro e w2 ⟨P2, F2, hG2, hN2, f, rfl, hE⟩
  obtain ⟨w3, hw3⟩ : ∃ w3, w3 = w2.alloc (.cells #[.bool false, .slice none 0 0, .slice none 0 0, .slice none 0 0] 26) := ⟨_, rfl⟩
  have m3 : Ext w2 w3 := by rw [hw3]; exact (Mods.refl _ _).alloc _
  have hR3 := (HR.out.nxt hN2).ext m3
  have r0 := hR3.blk.cell (o := 0) rfl
  have r1 := hR3.blk.cell (o := 1) rfl
  have r2 := hR3.blk.cell (o := 2) rfl
  have r3 := hR3.blk.cell (o := 3) rfl
  have r4 := hR3.blk.cell (o := 4) rfl
  have rf := hR3.blk.frozen
  have HR3 := Lib.hid hR3
  have HE3 := Lib.hid (hE.mods m3.ext)
  have HG3 := Lib.hid (hG2.at m3)
  have HN3 := Lib.hid ((HN.out.trans hN2).trans (Nxt.ext hN2.env hN2.sub m3))
  clear hE hG2 hN2 m3 hR3
  subst hw3
  go_wp2_with fail
  have mR := Mods.set5 (F := fun k => k = w.heap.size + 1) (Mods.refl _ (w2.alloc (.cells #[.bool false, .slice none 0 0, .slice none 0 0, .slice none 0 0] 26))) (R := w.heap.size + 1) (.inr rfl) (.bool false) (.slice none 0 0) (.slice none 0 0) (.slice none 0 0) (.bool false)
  have bR := HR3.out.blk.set5 (.bool false) (.slice none 0 0) (.slice none 0 0) (.slice none 0 0) (.bool false)
  refine bodyPost_ret (results_row_tmp rfl _ _ (w.heap.size + 1) 178 _ _ rfl bR Tryz.underlying178 rfl Tryz.remSz) rfl ?_
  exact ⟨P2, F2, HG3.out.var HR3.out mR, HN3.out.var HR3.out mR, f, rfl, HE3.out.mods (HR3.out.mF mR)⟩
set_option maxRecDepth 100000 in
set_option maxHeartbeats 1000000 in
theorem delMiss_any (hL : Env F ad w) (hP : ∀ k, P k → F k) (h : PgR F w P c s G l) (gen : Nat) (id : Int) (hid : id ≠ 0) (key : ByteArray) (hky : keyB key = true) (hk : G.knows id) (el : List Int) (kk : Nat) (hld : G.load id = .inr (el, kk)) :
    Calls Tryz.prog 61 #[pgV c s gen, .int .i64 id, .string key] w (PgDone F P ad w c s G l (fun F' w' e => ∃ f el, e = .returned (.tuple #[.int .i64 0, .bool false, faultV f]) ∧ ErrC F' ad w' (faultV f) el kk)) := by
  have m0 : Ext w ((w.alloc (.cells #[.pointer (some ⟨c, 0, none⟩), .pointer (some ⟨s, 0, none⟩), .int .u64 (gen : Int)] 48)).alloc (.cells #[.string key] 9)) := ((Mods.refl _ w).alloc _).alloc _
  have hK := delRow hL c s gen key
  have HBB := Lib.hid ((Blk.new w #[.pointer (some ⟨c, 0, none⟩), .pointer (some ⟨s, 0, none⟩), .int .u64 (gen : Int)] 48).alloc (.cells #[.string key] 9))
  have HC := remCheck1_any (c := c) (s := s) ⟨#[114, 101, 109, 111, 118, 101, 46, 68, 101, 108, 101, 116, 101]⟩ gen key hky _ hK
  have hne := key_ne hky
  unfold pgV at HC ⊢
  have HC := Lib.hid HC
  have HN := Lib.hid (Nxt.ext hL hP m0)
  have HG := Lib.hid (h.at m0)
  have HLD := Lib.hid hld
  clear hL hP h hK hld m0 hky
  go_enter Tryz.func61, Tryz.ntmps61
  go_wp2_with fail
  refine HC.out.mono ?_
  rintro e w1 ⟨rfl, hm1⟩
  have hN1 := HN.out.trans (Nxt.ext HN.out.env HN.out.sub hm1)
  have hG1 := HG.out.at hm1
  have HTK := takeMiss_any hN1.env hN1.sub hG1 gen id key hk el kk HLD.out
  unfold pgV at HTK
  have HTK := Lib.hid HTK
  have hB1 := HBB.out.ext hm1
  have b0 := hB1.cell (o := 0) rfl
  have b1 := hB1.cell (o := 1) rfl
  have b2 := hB1.cell (o := 2) rfl
  have HN1 := Lib.hid hN1
  clear hm1 hB1 hG1 hN1
  go_wp2_with fail
  refine HTK.out.mono ?_
  rintro e w2 ⟨P2, F2, hG2, hN2, f, rfl, hE⟩
  have m3 : Ext w2 (w2.alloc (.cells remZc 178)) := (Mods.refl _ w2).alloc _
  have HG3 := Lib.hid (hG2.at m3)
  have HE3 := Lib.hid (hE.mods m3.ext)
  have HN3 := Lib.hid ((HN1.out.trans hN2).trans (Nxt.ext hN2.env hN2.sub m3))
  clear hG2 hN2 hE m3
  go_wp2_with fail
  refine (wrap_any HN3.out.env _ _ _ _ HE3.out).mono ?_
  rintro e w4 ⟨f4, rfl, hE4, hm4⟩
  have HE4 := Lib.hid hE4
  have HN4 := Lib.hid (HN3.out.trans (Nxt.ext HN3.out.env HN3.out.sub hm4))
  have HG4 := Lib.hid (HG3.out.at hm4)
  clear hE4 hm4
  go_wp2_with fail
  refine bodyPost_ret (v := .tuple #[.int .i64 0, .bool false, faultV f4]) (by simp [results, Tryz.results61, go_sem]) rfl ?_
  exact ⟨P2, F2, HG4.out, HN4.out, f4, _, rfl, HE4.out⟩
set_option maxRecDepth 100000 in
theorem ready_nosp (hL : Env F ad w) (op : ByteArray) (c gen : Nat) : Calls Tryz.prog 100 #[.string op, noSp c gen] w fun e w' => ∃ f, e = .returned (faultV f) ∧ ErrC F ad w' (faultV f) [-1] 7 ∧ Ext w w' := by
  have m0 : Ext w (w.alloc (.cells #[.pointer (some ⟨c, 0, none⟩), .pointer none, .int .u64 (gen : Int)] 48)) := (Mods.refl _ w).alloc _
  have hL0 := hL.mods m0.ext
  have g7 := hL0.c7
  have HL := Lib.hid hL0
  have M0 := Lib.hid m0
  clear hL hL0 m0
  unfold noSp
  go_enter Tryz.func100, Tryz.ntmps100
  go_wp2_with fail
  refine (new_any HL.out _ _ [] 7 (.sent 7 (by decide) (by decide))).mono ?_
  rintro e w1 ⟨f, rfl, hE, hm⟩
  have HE := Lib.hid hE
  have HM := Lib.hid hm
  clear hE hm
  go_wp2_with fail
  go_ret
  exact ⟨f, rfl, HE.out, M0.out.trans HM.out⟩
set_option maxRecDepth 100000 in
theorem walk_nosp (hL : Env F ad w) (c gen : Nat) (id : Int) : Calls Tryz.prog 47 #[noSp c gen, .int .i64 id] w fun e w' => ∃ f, e = .returned (.tuple #[repZ, faultV f]) ∧ ErrC F ad w' (faultV f) [-1] 7 ∧ Ext w w' := by
  have m0 : Ext w ((w.alloc (.cells #[.pointer (some ⟨c, 0, none⟩), .pointer none, .int .u64 (gen : Int)] 48)).alloc (.cells #[.slice none 0 0, .slice none 0 0, .int .i64 0] 81)) := ((Mods.refl _ w).alloc _).alloc _
  have HR := Lib.hid (fun op => ready_nosp (hL.plusX m0 (X := w.heap.size + 1) (by omega) (by simp)) op c gen)
  have HB0 : Hid (Blk ((w.alloc (.cells #[.pointer (some ⟨c, 0, none⟩), .pointer none, .int .u64 (gen : Int)] 48)).alloc (.cells #[.slice none 0 0, .slice none 0 0, .int .i64 0] 81)) (w.heap.size + 1) #[.slice none 0 0, .slice none 0 0, .int .i64 0] 81) := Lib.hid (heap_at (by simp))
  have M0 := Lib.hid m0
  clear hL m0
  unfold noSp at HR ⊢
  go_enter Tryz.func47, Tryz.ntmps47
  go_wp2_with fail
  refine (HR.out _).mono ?_
  rintro e w1 ⟨f, rfl, hE, hm⟩
  have hB := HB0.out.ext hm
  have hbl := hB.lt
  have c0 := hB.cell (o := 0) (v := .slice none 0 0) rfl
  have c1 := hB.cell (o := 1) (v := .slice none 0 0) rfl
  have c2 := hB.cell (o := 2) (v := .int .i64 0) rfl
  have cf := hB.frozen
  have m4 := Mods.set3 (F := fun k => k = w.heap.size + 1) (Mods.refl _ w1) (R := w.heap.size + 1) (.inr rfl) (.slice none 0 0) (.slice none 0 0) (.int .i64 0)
  have HE := Lib.hid (hE.unR (m4.mono (fun k hk => .inr hk)))
  have HBR := Lib.hid (Blk.set3 hB (.slice none 0 0) (.slice none 0 0) (.int .i64 0))
  have HM := Lib.hid ((M0.out.trans hm).trans' m4 (fun i hi e => by omega))
  clear hE hm hB m4
  go_wp2_with fail
  refine bodyPost_ret (results_row_tmp rfl _ _ (w.heap.size + 1) 81 #[.slice none 0 0, .slice none 0 0, .int .i64 0] _ rfl HBR.out Tryz.underlying81 rfl Tryz.repSize) rfl ?_
  exact ⟨f, rfl, HE.out, HM.out⟩
set_option maxRecDepth 100000 in
theorem clear_nosp (hL : Env F ad w) (c gen : Nat) (id : Int) : Calls Tryz.prog 62 #[noSp c gen, .int .i64 id] w fun e w' => ∃ f el, e = .returned (.tuple #[.int .i64 0, faultV f]) ∧ ErrC F ad w' (faultV f) el 7 ∧ Ext w w' := by
  have m0 : Ext w (w.alloc (.cells #[.pointer (some ⟨c, 0, none⟩), .pointer none, .int .u64 (gen : Int)] 48)) := (Mods.refl _ w).alloc _
  have hL0 := hL.mods m0.ext
  have HR := Lib.hid (walk_nosp hL0 c gen id)
  have HL := Lib.hid hL0
  have M0 := Lib.hid m0
  clear hL m0 hL0
  unfold noSp at HR ⊢
  go_enter Tryz.func62, Tryz.ntmps62
  go_wp2_with fail
  refine HR.out.mono ?_
  rintro e w1 ⟨f, rfl, hE, hm⟩
  have m2 : Ext w1 (w1.alloc (.cells #[.slice none 0 0, .slice none 0 0, .int .i64 0] 81)) := (Mods.refl _ w1).alloc _
  have HE := Lib.hid (hE.mods m2.ext)
  have HM := Lib.hid (hm.trans m2)
  clear hE hm m2
  go_wp2_with fail
  refine (wrap_any (HL.out.mods HM.out.ext) _ _ _ _ HE.out).mono ?_
  rintro e w2 ⟨f2, rfl, hE2, hm2⟩
  have HE2 := Lib.hid hE2
  have HM2 := Lib.hid hm2
  clear hE2 hm2
  go_wp2_with fail
  go_ret2
  exact ⟨f2, _, rfl, HE2.out, M0.out.trans (HM.out.trans HM2.out)⟩
set_option maxRecDepth 100000 in
theorem span_nosp (hL : Env F ad w) (c gen : Nat) (id : Int) (a b : ByteArray) : Calls Tryz.prog 63 #[noSp c gen, .int .i64 id, .string a, .string b] w fun e w' => ∃ f, e = .returned (.tuple #[.int .i64 0, .int .i64 0, faultV f]) ∧ ErrC F ad w' (faultV f) [-1] 7 ∧ Ext w w' := by
  have m0 : Ext w ((w.alloc (.cells #[.pointer (some ⟨c, 0, none⟩), .pointer none, .int .u64 (gen : Int)] 48)).alloc (.cells #[.string a, .string b] 9)) := ((Mods.refl _ w).alloc _).alloc _
  have HC := Lib.hid (fun op kv => remCheck_nosp (hL.mods m0.ext) op c gen kv)
  have M0 := Lib.hid m0
  unfold noSp at HC ⊢
  clear hL m0
  go_enter Tryz.func63, Tryz.ntmps63
  go_wp2_with fail
  refine (HC.out _ _).mono ?_
  rintro e w1 ⟨f, rfl, hE, hm⟩
  have HE := Lib.hid hE
  have HM := Lib.hid hm
  clear hE hm
  go_wp2_with fail
  refine bodyPost_ret (v := .tuple #[.int .i64 0, .int .i64 0, faultV f]) (by simp [results, Tryz.results63, go_sem]) rfl ?_
  exact ⟨f, rfl, HE.out, M0.out.trans HM.out⟩
end
end Go.Proofs.YtpjpldedebddgaaGreatDoor
namespace Go.Proofs.YtpjpldedebddgaaGreatDoor
open Go.RowKit
attribute [local go_sem ↓] Go.wp_at_zero Go.wp_at_succ
section
variable {F : Nat → Prop} {ad : Nat → Addr} {w w' : World}
theorem tells14_k (hL : Env F ad w) (hfu : Full ad) {f : Nat} {el : List Int} {k : Nat} (he : ErrC F ad w (faultV f) el k) (q : Nat) (hq : q < 100) (hk : k = q) : Calls Tryz.prog 64 #[faultV f, .int .i64 (q : Int)] w fun e w' => e = .returned (.bool true) ∧ w = w' := by
  refine (tells14_any hL hfu (faultV f) (some (el, k)) ⟨f, rfl, he⟩ q hq).mono ?_
  rintro e w' ⟨rfl, h⟩
  refine ⟨?_, h⟩
  have : decide (codeO (some (el, k)) = q) = true := decide_eq_true hk
  rw [this]
end
theorem load_any14 (n : Nat) (id : Int) : ∃ el k, (G0 n).load id = .inr (el, k) := by
  by_cases h : id < 0 ∨ (n : Int) ≤ id
  · refine ⟨-1 :: [pgOf id], 2, ?_⟩
    unfold GA.load GA.get GA.check
    rw [if_pos (by exact h)]
  · obtain ⟨i, rfl⟩ : ∃ i : Nat, id = (i : Int) := ⟨id.toNat, by omega⟩
    obtain ⟨_, l, h⟩ := puts_none (n := n) (ps := []) (i := i) (by omega) (fun p hp => by simp at hp)
    have h2 : (G0 n).get (i : Int) = .inr (l, 5) := h
    refine ⟨-1 :: l, 5, ?_⟩
    unfold GA.load
    rw [h2]
set_option maxRecDepth 100000 in
set_option maxHeartbeats 4000000 in
theorem RemoveRefuses_any {ad : Nat → Addr} {w : World} (hL : Env NoB ad w) (hfu : Full ad) (key : ByteArray) (root : Int) :
    Calls Tryz.prog 12 #[.string key, .int .i64 root] w fun e w' => e = .returned (.bool true) ∧ Ext w w' := by
  have HL := Lib.hid hL
  have HFU := Lib.hid hfu
  clear hL hfu
  go_enter Tryz.func12, Tryz.ntmps12
  go_wp2_with fail
  refine (pager14_any HL.out 16 (by omega) (by omega)).mono ?_
  rintro e w1 ⟨c, s, P, F, rfl, hG, hN⟩
  have hS := LG.startZ (gen := 5) hG hN 5 rfl
  have t0 := hS.c0
  have t1 := hS.c1
  have t2 : _ = some (Value.int .u64 5) := hS.c2
  have HS := Lib.hid hS
  rw [pgV5]
  clear hG hN hS
  go_wp2_with fail
  obtain ⟨w2, hw2⟩ : ∃ w2, w2 = (w1.alloc (.cells #[.pointer (some ⟨c, 0, none⟩), .pointer (some ⟨s, 0, none⟩), .int .u64 5] 48)).alloc (.cells #[.pointer (some ⟨c, 0, none⟩), .pointer none, .int .u64 0] 48) := ⟨_, rfl⟩
  have m2 : Ext (w1.alloc (.cells #[.pointer (some ⟨c, 0, none⟩), .pointer (some ⟨s, 0, none⟩), .int .u64 5] 48)) w2 := by rw [hw2]; exact (Mods.refl _ _).alloc _
  have hz : (w1.alloc (.cells #[.pointer (some ⟨c, 0, none⟩), .pointer (some ⟨s, 0, none⟩), .int .u64 5] 48)).heap.size = w1.heap.size + 1 := by simp
  have HB : Hid (Blk w2 (w1.heap.size + 1) #[.pointer (some ⟨c, 0, none⟩), .pointer none, .int .u64 0] 48) := Lib.hid (by rw [hw2]; exact heap_at (by simp))
  have HS2 := Lib.hid (HS.out.ext m2)
  rw [← hw2]
  clear hw2 m2 t0 t1 t2 hz
  have HD := delNoSp_any HS2.out.env c 0 root key
  change Calls Tryz.prog 61 #[.agg #[.pointer (some ⟨c, 0, none⟩), .pointer none, .int .u64 0], .int .i64 root, .string key] _ _ at HD
  refine HD.mono ?_
  clear HD
  rintro e w3 ⟨f3, el3, rfl, hE3, hm3⟩
  have HE3 := Lib.hid hE3
  have HS3 := Lib.hid (HS2.out.ext hm3)
  have HB3 := Lib.hid (HB.out.ext hm3)
  have n0 := HB3.out.cell (o := 0) rfl
  have n1 := HB3.out.cell (o := 1) rfl
  have n2 := HB3.out.cell (o := 2) rfl
  clear hE3 hm3
  go_wp2_with fail
  have HD := clear_nosp HS3.out.env c 0 root
  change Calls Tryz.prog 62 #[.agg #[.pointer (some ⟨c, 0, none⟩), .pointer none, .int .u64 0], .int .i64 root] _ _ at HD
  refine HD.mono ?_
  clear HD
  rintro e w4 ⟨f4, el4, rfl, hE4, hm4⟩
  have HE4 := Lib.hid hE4
  have HE3 := Lib.hid (HE3.out.mods hm4.ext)
  have HS4 := Lib.hid (HS3.out.ext hm4)
  have HB4 := Lib.hid (HB3.out.ext hm4)
  have n0 := HB4.out.cell (o := 0) rfl
  have n1 := HB4.out.cell (o := 1) rfl
  have n2 := HB4.out.cell (o := 2) rfl
  clear hE4 hm4
  go_wp2_with fail
  have HD := span_nosp HS4.out.env c 0 root key ⟨#[]⟩
  change Calls Tryz.prog 63 #[.agg #[.pointer (some ⟨c, 0, none⟩), .pointer none, .int .u64 0], .int .i64 root, .string key, .string ⟨#[]⟩] _ _ at HD
  refine HD.mono ?_
  clear HD
  rintro e w5 ⟨f5, rfl, hE5, hm5⟩
  have HE5 := Lib.hid hE5
  have HE4 := Lib.hid (HE4.out.mods hm5.ext)
  have HE3 := Lib.hid (HE3.out.mods hm5.ext)
  have HS5 := Lib.hid (HS4.out.ext hm5)
  have t0 := HS5.out.c0
  have t1 := HS5.out.c1
  have t2 : _ = some (Value.int .u64 5) := HS5.out.c2
  clear hE5 hm5 n0 n1 n2
  go_wp2_with fail
  refine (tells14_k HS5.out.env HFU.out HE3.out 7 (by omega) rfl).mono ?_
  rintro e w6 ⟨rfl, rfl⟩
  go_wp2_with fail
  refine (tells14_k HS5.out.env HFU.out HE4.out 7 (by omega) rfl).mono ?_
  rintro e w6 ⟨rfl, rfl⟩
  go_wp2_with fail
  refine (tells14_k HS5.out.env HFU.out HE5.out 7 (by omega) rfl).mono ?_
  rintro e w6 ⟨rfl, rfl⟩
  go_wp2_with fail
  have HAW := Lib.hid (fun W (m : Env NoB ad W) => awake14_any (w := W) m)
  cases hk : keyB key with
  | false =>
    have HD := delBad_any (c := c) (s := s) HS5.out.env 5 root key hk
    rw [pgV5] at HD
    refine HD.mono ?_
    clear HD
    rintro e w6 ⟨f6, el6, rfl, hE6, hm6⟩
    have HE6 := Lib.hid hE6
    have HS6 := Lib.hid (HS5.out.ext hm6)
    have HKY := key07_any key w6
    rw [hk] at HKY
    have HKY := Lib.hid HKY
    clear hE6 hm6 t0 t1 t2 hk
    go_wp2_with fail
    refine HKY.out.mono ?_
    rintro e w7 ⟨rfl, rfl⟩
    go_wp2_with fail
    refine (tells14_k HS6.out.env HFU.out HE6.out 2 (by omega) rfl).mono ?_
    rintro e w7 ⟨rfl, rfl⟩
    go_wp2_with fail
    refine (HAW.out _ (HS6.out.env.anti (Q := NoB) (fun _ f => f.elim))).mono ?_
    rintro e w7 ⟨rfl, hm7⟩
    go_wp2_with fail
    go_ret
    exact ⟨rfl, HS6.out.ext0.trans hm7⟩
  | true =>
    have HKY := Lib.hid (key07_any key)
    rw [hk] at HKY
    by_cases hr : root = 0
    · subst hr
      have HD := del0_any (c := c) (s := s) HS5.out.env 5 key hk
      rw [pgV5] at HD
      refine HD.mono ?_
      clear HD
      rintro e w6 ⟨rfl, hm6⟩
      have HS6 := Lib.hid (HS5.out.ext hm6)
      clear hm6 t0 t1 t2 hk
      go_wp2_with fail
      refine (HKY.out _).mono ?_
      rintro e w7 ⟨rfl, rfl⟩
      go_wp2_with fail
      refine (HAW.out _ (HS6.out.env.anti (Q := NoB) (fun _ f => f.elim))).mono ?_
      rintro e w7 ⟨rfl, hm7⟩
      go_wp2_with fail
      go_ret
      exact ⟨rfl, HS6.out.ext0.trans hm7⟩
    · obtain ⟨el, kk, hld⟩ := load_any14 16 root
      have HD := delMiss_any HS5.out.env HS5.out.sub HS5.out.pg 5 root hr key hk ((G0_puts_total 16 []).knows _) el kk hld
      rw [pgV5] at HD
      refine HD.mono ?_
      clear HD
      rintro e w6 hd
      obtain ⟨P6, F6, hS6, f6, el6, rfl, hE6⟩ := HS5.out.done hd
      have HS6 := Lib.hid hS6
      have HE6 := Lib.hid hE6
      have t1 := hS6.c1
      have HCT : Hid (spCount (spNew 16) = 14) := Lib.hid (by rw [spK_zero 16 (by omega), spK_count 16 0 (by omega)])
      have HFR := pgFree HS6.out.pg
      rw [HCT.out] at HFR
      have HFR := Lib.hid HFR
      clear hd hS6 hE6 t0 t2 hk hld
      go_wp2_with fail
      refine (HKY.out _).mono ?_
      rintro e w7 ⟨rfl, rfl⟩
      go_wp2_with fail
      refine HFR.out.mono ?_
      rintro e w7 ⟨rfl, rfl⟩
      go_wp2_with fail
      refine (HAW.out _ (HS6.out.env.anti (Q := NoB) (fun _ f => f.elim))).mono ?_
      rintro e w7 ⟨rfl, hm7⟩
      go_wp2_with fail
      go_ret
      exact ⟨rfl, HS6.out.ext0.trans hm7⟩
end Go.Proofs.YtpjpldedebddgaaGreatDoor
