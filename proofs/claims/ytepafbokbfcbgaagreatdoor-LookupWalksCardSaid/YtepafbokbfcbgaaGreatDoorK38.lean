/- LookupWalks, walked. -/
import Derived.Test.YtepafbokbfcbgaaGreatDoorK37
import Derived.Test.YtepafbokbfcbgaaGreatDoorK27
import Derived.Test.YtepafbokbfcbgaaGreatDoorK35
import Derived.Test.YtepafbokbfcbgaaGreatDoorK28
import Derived.Deep.RegionHeld3
namespace Go.Proofs.YtepafbokbfcbgaaGreatDoor
open Go.RowKit
attribute [local go_sem ↓] Go.wp_at_zero Go.wp_at_succ
/-- which Ids were seen. -/
def SeenA (arr : Array Value) (ps : List Nat) : Prop := arr.size = 256 ∧ ∀ i, i < 256 → arr[i]? = some (.bool (decide (i ∈ ps)))
theorem SeenA.none : SeenA (Array.replicate 256 (.bool false)) [] := by
  refine ⟨Array.size_replicate, fun i hi => ?_⟩
  rw [Array.getElem?_replicate, if_pos hi]
  simp
theorem SeenA.put {arr : Array Value} {ps : List Nat} {i : Nat} (h : SeenA arr ps) (hi : i < 256) : SeenA (arr.setIfInBounds i (.bool true)) (ps ++ [i]) := by
  refine ⟨by rw [Array.size_setIfInBounds]; exact h.1, fun j hj => ?_⟩
  rw [Array.getElem?_setIfInBounds]
  by_cases e : i = j
  · subst e
    rw [if_pos rfl, if_pos (by rw [h.1]; exact hi)]
    simp
  · rw [if_neg e, h.2 j hj]
    have : ¬ j = i := fun h => e h.symm
    simp [this]
section
variable {ad : Nat → Addr} {w0 w w' : World} {B c s gen : Nat} {P P' F F' : Nat → Prop} {G G' : GA} {l l' : List Nat}
theorem Tryz.boolInfo : (Tryz.prog.info? 4).map (fun i => (i.zero, i.size, i.bytes)) = some (some (.bool false), 1, 1) := by kernel_rfl
set_option maxRecDepth 100000 in
set_option maxHeartbeats 2000000 in
theorem LookupWalks_any {ad : Nat → Addr} {w : World} (hL : Env NoB ad w) (l : List PairS) (lv : Value) (hl : Sl NoB w 2 encP lv l) (E K : Nat) (hE : E < 256) (hK : K < 256) :
    Calls Tryz.prog 3 #[.agg #[lv, .int .u8 (E : Int), .int .u8 (K : Int)]] w fun e w' => e = .returned (.bool true) ∧ Ext w w' := by
  have HL := Lib.hid hL
  have HT := Lib.hid (tree_on (tameP_ok 300 l) (e := 1 + E % 3) (k := 2 + K % 3) (by omega) (by omega) (by omega) (by omega))
  have HWB := Lib.hid (walk_built (tameP_ok 300 l) (e := 1 + E % 3) (k := 2 + K % 3) (by omega) (by omega) (by omega) (by omega) HT.out.on)
  have m0 : Ext w (w.alloc (.cells #[lv, .int .u8 (E : Int), .int .u8 (K : Int)] 24)) := (Mods.refl _ w).alloc _
  have HBC := Lib.hid (built_any l lv (hl.ext m0) E K hE hK)
  have HM0 := Lib.hid m0
  obtain ⟨la, lc, rfl, _, _, _, _⟩ := hl
  obtain ⟨zs, hzs⟩ : ∃ zs : Array Value, zs = Array.replicate 256 (.bool false) := ⟨_, rfl⟩
  have hmk : ∀ w, (Instr.makeSlice 47 (.int .i64 256) (.int .i64 256)).run Tryz.prog w = .ok (.slice (some ⟨w.heap.size, 0, none⟩) 256 256) (w.alloc (.cells zs 4)) := fun w => by
    rw [hzs]
    exact run_mk 47 4 (.bool false) 1 Tryz.underlying47 Tryz.boolInfo rfl 256 (by omega) (by omega) w
  have HZS := Lib.hid hzs
  clear hL m0 hzs
  go_enter Tryz.func3, Tryz.ntmps3
  go_wp2_with fail
  refine (HBC.out).mono ?_
  rintro e w1 ⟨pv, xs, vl, rfl, hP, hxs, hO, hm1⟩
  obtain ⟨q, hq⟩ : ∃ q, q = tameP 300 l := ⟨_, rfl⟩
  rw [← hq] at hxs HT HWB hO ⊢
  obtain ⟨r, hr⟩ : ∃ r, r = buildA 5 (1 + E % 3) (2 + K % 3) q := ⟨_, rfl⟩
  rw [← hr] at hxs HT HWB ⊢
  have HQ0 : Hid (q = [] → r.1 = []) := Lib.hid (fun e => by rw [hr, e]; simp [buildA])
  have HM1 := Lib.hid (HM0.out.trans hm1)
  have hpu := HT.out.puts
  rw [← hxs] at hpu
  have hln : xs.length ≤ 100 := by have := HT.out.few; rw [← hxs, List.length_map] at this; omega
  have hxl : r.1.length = xs.length := by rw [← hxs, List.length_map]
  have hql := HT.out.tame.len
  obtain ⟨hsl, hbs⟩ := hP.pages (by omega) (fun x hx => hpu.bodies _ (List.mem_map_of_mem hx))
  obtain ⟨pa, pc, rfl, _, _⟩ := hP.row.form
  have hqs : Sl NoB w1 2 encP vl q := hO.sl encP_ok.len (by omega)
  have m2 : Ext w1 (w1.alloc (.cells #[.slice pa xs.length pc, .int .i64 (r.2.1 : Int), .int .i64 (r.2.2 : Int)] 27)) := (Mods.refl _ w1).alloc _
  have HPC := Lib.hid (pagerOf_any (HL.out.mods ((HM1.out.trans m2).ext)) xs (.slice pa xs.length pc) (hsl.ext m2) (fun x hx => (hbs x hx).ext m2) hpu (by omega))
  have HTB := Lib.hid (Blk.new w1 #[.slice pa xs.length pc, .int .i64 (r.2.1 : Int), .int .i64 (r.2.2 : Int)] 27)
  have HM2 := Lib.hid (HM1.out.trans m2)
  have HQS := Lib.hid (hqs.ext m2)
  obtain ⟨va, vc, rfl, v1, v2, v3, _⟩ := hqs
  unfold maxLen at v2
  rw [hxs] at HPC
  have HXL := Lib.hid hxl
  have hrt : r.2.1 < 256 := by
    rcases HT.out.tree with ⟨_, h, _⟩ | ⟨_, h, _⟩
    · omega
    · exact h
  have HRT := Lib.hid hrt
  clear hP hxs hm1 hr hpu hsl hbs m2 hO hq hxl hrt
  go_wp2_with fail
  refine (HPC.out).mono ?_
  rintro e w2 ⟨c, s, P, F, rfl, hG, hN⟩
  have hS := LG.startZ (gen := 5) hG hN 5 rfl
  have t0 := hS.c0
  have t1 := hS.c1
  have t2 : _ = some (Value.int .u64 5) := hS.c2
  have hb := hS.old HTB.out
  have b1 := hb.cell (o := 1) (v := .int .i64 (r.2.1 : Int)) rfl
  have HS := Lib.hid hS
  have hroot : -9223372036854775808 ≤ (r.2.1 : Int) ∧ (r.2.1 : Int) ≤ 9223372036854775807 := by have := HRT.out; omega
  have HPT := Lib.hid (lookWalk_any hS.env hS.sub hS.pg 5 (r.2.1 : Int) ((Lit.wf_int_iff .i64 _).2 hroot) (by rw [(putsG_same r.1 (G0 200)).1]; show 200 ≤ 256; omega) (G0_puts_total 200 r.1))
  rw [pgV5] at HPT ⊢
  clear hG hN hS hb hroot
  go_wp2_with fail
  refine (HPT.out).mono ?_
  rintro e w3 hd
  obtain ⟨pgs, hw, hperm, hhead⟩ := HWB.out
  rw [hw] at hd
  obtain ⟨P3, F3, hS3, pv3, kv3, rfl, hsp, hsk⟩ := HS.out.done hd
  have hpl : (iL pgs).length = xs.length := by
    have := hperm.length_eq
    rw [List.length_range', HXL.out] at this
    simpa [iL] using this
  have hkl : (q.map (·.1)).length = q.length := List.length_map _
  have HPL := Lib.hid hpl
  have HSP := Lib.hid hsp
  have HSK := Lib.hid hsk
  have HPERM := Lib.hid hperm
  have HHEAD := Lib.hid hhead
  obtain ⟨ra, rc, rfl, p1, p2, p3, -⟩ := hsp
  obtain ⟨ka, kc, rfl, q1, q2, q3, -⟩ := hsk
  simp only at p1 p3 q1 q3 HSP HSK ⊢
  rw [hpl] at p1 p3 HSP ⊢
  rw [hkl] at q1 q3 HSK ⊢
  unfold maxLen at p2 q2
  have HS3 := Lib.hid hS3
  have m4 : Ext w3 (w3.alloc (.cells #[.slice ra xs.length rc, .slice ka q.length kc, .int .i64 (r.2.2 : Int)] 40)) := (Mods.refl _ w3).alloc _
  have HM4 := Lib.hid m4
  have hRB := Blk.new w3 #[.slice ra xs.length rc, .slice ka q.length kc, .int .i64 (r.2.2 : Int)] 40
  have y0 := hRB.cell (o := 0) (v := .slice ra xs.length rc) rfl
  have y1 := hRB.cell (o := 1) (v := .slice ka q.length kc) rfl
  have y2 := hRB.cell (o := 2) (v := .int .i64 (r.2.2 : Int)) rfl
  have hTB := (hS3.old HTB.out).ext m4
  have b0 := hTB.cell (o := 0) (v := .slice pa xs.length pc) rfl
  have b1 := hTB.cell (o := 1) (v := .int .i64 (r.2.1 : Int)) rfl
  have b2 := hTB.cell (o := 2) (v := .int .i64 (r.2.2 : Int)) rfl
  have HKY := Lib.hid (keys11_any q (.slice va q.length vc) (((hS3.sl HQS.out).ext m4).ext (Mods.refl _ _).drew) (by omega))
  have HSTX : Hid (∀ (w5 : World) (kv5 : Value), Ext ((w3.alloc (.cells #[.slice ra xs.length rc, .slice ka q.length kc, .int .i64 (r.2.2 : Int)] 40)).drew) w5 → Own (fun _ => False) w5 ((w3.alloc (.cells #[.slice ra xs.length rc, .slice ka q.length kc, .int .i64 (r.2.2 : Int)] 40)).drew).heap.size 9 1 encS kv5 (q.map (·.1)) → Calls Tryz.prog 14 #[.slice ka q.length kc, kv5] w5 fun e w' => e = .returned (.bool true) ∧ Ext w5 w') := Lib.hid (fun w5 kv5 hm hO => by
    refine (SameTexts_any (.slice ka q.length kc) kv5 (q.map (·.1)) (q.map (·.1)) ((HSK.out.ext m4).ext ((Mods.refl _ _).drew.trans hm)) (hO.sl encS_ok.len (by rw [List.length_map]; omega))).mono ?_
    rintro e w' ⟨rfl, h⟩
    exact ⟨by simp, h⟩)
  have HRB := Lib.hid hRB
  have HTBB := Lib.hid hTB
  clear hd hw hperm hhead hpl hkl hS3 m4 hRB hTB t0 t1 t2
  go_wp2_with fail
  go_region_held3 (fun w' => w'.cell? ⟨w3.heap.size, 0, none⟩ = some (.slice ra xs.length rc) ∧ w'.cell? ⟨w3.heap.size, 1, none⟩ = some (.slice ka q.length kc) ∧ w'.cell? ⟨w3.heap.size, 2, none⟩ = some (.int .i64 (r.2.2 : Int)) ∧ w'.cell? ⟨w1.heap.size, 0, none⟩ = some (.slice pa xs.length pc) ∧ w'.cell? ⟨w1.heap.size, 2, none⟩ = some (.int .i64 (r.2.2 : Int)))
    (first | (with_reducible exact ⟨y0, y1, y2, b0, b2⟩) | (with_reducible exact ⟨c0, c1, c2, c3, c4⟩) | (with_reducible exact ⟨d0, d1, d2, d3, d4⟩) | go_keep)
    (first
      | (go_at_call 15; (with_reducible refine (HKY.out).mono ?_); rintro x w5 ⟨kv5, rfl, hO5, hm5⟩; have c0 := cellE hm5 y0; have c1 := cellE hm5 y1; have c2 := cellE hm5 y2; have c3 := cellE hm5 b0; have c4 := cellE hm5 b2)
      | (go_at_call 14; (with_reducible refine (HSTX.out _ _ hm5 hO5).mono ?_); rintro x w6 ⟨rfl, hm6⟩; have d0 := cellE hm6 c0; have d1 := cellE hm6 c1; have d2 := cellE hm6 c2; have d3 := cellE hm6 c3; have d4 := cellE hm6 c4)
      | fail)
  have HX6 := Lib.hid (((HM4.out.trans (Mods.refl _ _).drew).trans hm5).trans hm6)
  obtain ⟨B9, hB9⟩ : ∃ B9, B9 = w6.heap.size := ⟨_, rfl⟩
  have hRB9 := ((((HRB.out.ext (Mods.refl _ _).drew).ext hm5).ext hm6).alloc (.cells zs 4))
  have hTB9 := ((((HTBB.out.ext (Mods.refl _ _).drew).ext hm5).ext hm6).alloc (.cells zs 4))
  have HRB9 := Lib.hid hRB9
  have HTB9 := Lib.hid hTB9
  have hlt3 : w3.heap.size < B9 := by rw [hB9]; have := HRB.out.lt; have := (((HRB.out.ext (Mods.refl _ _).drew).ext hm5).ext hm6).lt; exact this
  have hlt1 : w1.heap.size < B9 := by rw [hB9]; exact (((HTBB.out.ext (Mods.refl _ _).drew).ext hm5).ext hm6).lt
  have HLT := Lib.hid (And.intro hlt3 hlt1)
  have HSP9 : Hid (Sl (fun k => k = B9) (w6.alloc (.cells zs 4)) 1 encI (.slice ra xs.length rc) (iL pgs)) := Lib.hid (HSP.out.step (G := fun k => k = B9) ((HX6.out.ext (F := F3)).trans ((Mods.refl _ w6).alloc (.cells zs 4)).ext) (fun k hk _ e => by omega))
  have hBL : Blk (w6.alloc (.cells zs 4)) B9 zs 4 := by rw [hB9]; exact Blk.new w6 zs 4
  have HBL := Lib.hid hBL
  have HB9 := Lib.hid hB9
  have hndp : pgs.Nodup := HPERM.out.nodup_iff.2 List.nodup_range'
  have HND := Lib.hid hndp
  have hpgl : pgs.length = xs.length := by have := HPL.out; simpa [iL] using this
  have HPG := Lib.hid hpgl
  clear hm5 hm6 hO5 c0 c1 c2 c3 c4 d0 d1 d2 d3 d4 y0 y1 y2 b0 b1 b2 hRB9 hTB9 hlt3 hlt1 hBL hndp hpgl
  go_wp2_with fail
  rw [← hB9]
  clear hB9
  go_loopg [10] xs.length (fun m v10 wr => ∃ k : Nat, k + m = xs.length ∧ v10 = .int .i64 (k : Int) ∧ Hid (Mods (fun k => k = B9) (w6.alloc (.cells zs 4)) wr ∧ ∃ arr, Blk wr B9 arr 4 ∧ SeenA arr (pgs.take k)))
  case atStart => exact ⟨0, by omega, rfl, Lib.hid ⟨Mods.refl _ _, zs, HBL.out, by rw [HZS.out]; exact SeenA.none⟩⟩
  case round =>
    obtain ⟨k, hk, rfl, HR⟩ := hrel
    have y0 := (HRB9.out.mods HR.out.1 (fun e => by have := HLT.out; omega)).cell (o := 0) (v := .slice ra xs.length rc) rfl
    have hTr := HTB9.out.mods HR.out.1 (fun e => by have := HLT.out; omega)
    have b0 := hTr.cell (o := 0) (v := .slice pa xs.length pc) rfl
    have b1 := hTr.cell (o := 1) (v := .int .i64 (r.2.1 : Int)) rfl
    clear hTr
    by_cases hlt : k < xs.length
    · have hkp : k < pgs.length := by rw [HPG.out]; exact hlt
      obtain ⟨idk, hidk⟩ : ∃ idk, idk = pgs[k] := ⟨_, rfl⟩
      have hmem : idk ∈ List.range' 2 r.1.length := HPERM.out.mem_iff.1 (by rw [hidk]; exact List.getElem_mem hkp)
      rw [List.mem_range'_1, HXL.out] at hmem
      obtain ⟨sb, soff, hra, hsc⟩ := HSP9.out.elemM (k := k) (by simpa [iL] using hkp) HR.out.1
      have e0 := hsc 0 (.int .i64 (idk : Int)) (by simp [iL, hidk, encI])
      simp only [Nat.mul_one, Nat.add_zero] at e0
      obtain ⟨hmr, arr, hbl, hse⟩ := HR.out
      have hnin : idk ∉ pgs.take k := fun hm => by
        obtain ⟨j, hj, hje⟩ := List.getElem_of_mem hm
        rw [List.getElem_take] at hje
        rw [List.length_take] at hj
        have := List.pairwise_iff_getElem.1 HND.out j k (by omega) hkp (by omega)
        rw [hje, hidk] at this
        exact this rfl
      have hi256 : idk < 256 := by omega
      have s0 : wr.cell? ⟨B9, idk, none⟩ = some (.bool false) := hbl.cell (by rw [hse.2 idk hi256]; simp [hnin])
      have sf := hbl.frozen idk
      have HTK : Hid (pgs.take (k + 1) = pgs.take k ++ [idk]) := Lib.hid (by rw [hidk]; exact take_one _ _ _ (List.getElem?_eq_getElem hkp))
      have HNX : Hid (Mods (fun k => k = B9) (w6.alloc (.cells zs 4)) (wr.setCell ⟨B9, idk, none⟩ (.bool true)) ∧ ∃ arr, Blk (wr.setCell ⟨B9, idk, none⟩ (.bool true)) B9 arr 4 ∧ SeenA arr (pgs.take (k + 1))) := Lib.hid
        ⟨hmr.setCell (p := ⟨B9, idk, none⟩) (.inr rfl) _, _, hbl.set idk (.bool true), by rw [HTK.out]; exact hse.put hi256⟩
      have i1 : (2 : Int) ≤ (idk : Int) := by omega
      have i2 : (idk : Int) < 2 + (xs.length : Int) := by omega
      have i3 : (idk : Int) < 256 := by omega
      have i4 : (0 : Int) ≤ (k : Int) := by omega
      have i5 : (k : Int) < (xs.length : Int) := by omega
      subst hra
      by_cases h0 : k = 0
      · have hir : idk = r.2.1 := by
          rcases Classical.em (q = []) with e | e
          · exfalso
            have h2 : r.1 = [] := HQ0.out e
            have := HXL.out
            rw [h2] at this
            simp at this
            omega
          · obtain ⟨rr, hrr⟩ := HHEAD.out e
            subst h0
            rw [hidk]
            simp [hrr]
        have hk0 : ((k : Int) == 0) = true := by rw [h0]; rfl
        have hne : ((idk : Int) != (r.2.1 : Int)) = false := by rw [hir]; simp
        clear hsc hnin hmr hbl hse hidk hmem h0 hir hi256
        go_wp2_with fail
        go_roundg (gk - 1)
        case measure => omega
        case rel => exact ⟨k + 1, by omega, by go_num, HNX⟩
      · have hk0 : ((k : Int) == 0) = false := beq_eq_false_iff_ne.2 (by omega)
        clear hsc hnin hmr hbl hse hidk hmem h0 hi256
        go_wp2_with fail
        go_roundg (gk - 1)
        case measure => omega
        case rel => exact ⟨k + 1, by omega, by go_num, HNX⟩
    · have HXW : Hid (Ext w wr) := Lib.hid ((HM2.out.trans HS3.out.ext0).trans' (((HX6.out.trans ((Mods.refl _ w6).alloc (.cells zs 4)))).trans' HR.out.1 (fun i hi e => by
          have := HLT.out; omega)) (fun i hi e => e))
      have HAW := Lib.hid (awake11_any (HL.out.mods HXW.out.ext))
      go_wp2_with fail
      refine (HAW.out).mono ?_
      rintro e w10 ⟨rfl, hm10⟩
      have HM10 := Lib.hid (HXW.out.trans hm10)
      clear hm10
      go_wp2_with fail
      go_ret
      exact ⟨rfl, HM10.out⟩
end
end Go.Proofs.YtepafbokbfcbgaaGreatDoor
