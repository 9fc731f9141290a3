/- LookupGets, walked. -/
import Derived.Test.YtmgfneijcfjlfaaGreatDoorK30
import Derived.Test.YtmgfneijcfjlfaaGreatDoorK34
namespace Go.Proofs.YtmgfneijcfjlfaaGreatDoor
open Go.RowKit
attribute [local go_sem ↓] Go.wp_at_zero Go.wp_at_succ
/-- a pair of a tree is held. -/
theorem TreeG.held {G : GA} {root d : Nat} {l : List PairS} (h : TreeG G root d l) (hs : SortedP l) (hk : PairsOk l) {x : PairS} (hx : x ∈ l) : ∃ st id at_ n e, HeldA G (root : Int) x st id at_ n e ∧ st.length ≤ 1000 := by
  have hkx := (hk x hx).1
  have hfx := find_mem hs hx
  rcases h with ⟨rfl, _, _⟩ | ⟨h1, _, h2, h3⟩
  · simp at hx
  · obtain ⟨st, m, p, k1, k2, k3, k4, k5, k6⟩ := h3.onG h2 x.1
    obtain ⟨st0, id, e1, e2⟩ := k1.last
    rw [hfx] at k4
    rcases leaf_says k2 x.1 with ⟨j1, e, v, j2, j3, j4, j5⟩ | ⟨j1, j2⟩
    · rw [j5] at k4
      injection k4 with k4
      subst k4
      refine ⟨stI st0, (id : Int), entAt x.1 m.entries, m, e, ⟨?_, (GA.node_load e2).2, j2, (value_tells j4).1⟩, ?_⟩
      · unfold pathA
        rw [lkCheck_ok hkx, k5]
        simp only
        rw [if_neg (by omega), findN_leaf k2.leaf]
        rw [j1, e1]
        simp [stI]
      · have : st.length = st0.length + 1 := by rw [e1]; simp
        simp only [stI, List.length_map]
        omega
    · rw [j2] at k4; cases k4
set_option maxRecDepth 100000 in
set_option maxHeartbeats 2000000 in
theorem LookupGets_any {ad : Nat → Addr} {w : World} (hL : Env NoB ad w) (hfu : Full ad) (l : List PairS) (lv : Value) (hl : Sl NoB w 2 encP lv l) (E K : Nat) (hE : E < 256) (hK : K < 256) (key : ByteArray) :
    Calls Tryz.prog 3 #[.agg #[lv, .int .u8 (E : Int), .int .u8 (K : Int)], .string key] w fun e w' => e = .returned (.bool true) ∧ Ext w w' := by
  have HL := Lib.hid hL
  have HFU := Lib.hid hfu
  have HT := Lib.hid (tree_on (tameP_ok 300 l) (e := 1 + E % 3) (k := 2 + K % 3) (by omega) (by omega) (by omega) (by omega))
  have m0 : Ext w (w.alloc (.cells #[lv, .int .u8 (E : Int), .int .u8 (K : Int)] 24)) := (Mods.refl _ w).alloc _
  have HBC := Lib.hid (built_any l lv (hl.ext m0) E K hE hK)
  have HM0 := Lib.hid m0
  obtain ⟨la, lc, rfl, _, _, _, _⟩ := hl
  clear hL hfu m0
  go_enter Tryz.func3, Tryz.ntmps3
  go_wp2_with fail
  refine (HBC.out).mono ?_
  rintro e w1 ⟨pv, xs, vl, rfl, hP, hxs, hO, hm1⟩
  obtain ⟨q, hq⟩ : ∃ q, q = tameP 300 l := ⟨_, rfl⟩
  rw [← hq] at hxs HT hO ⊢
  obtain ⟨r, hr⟩ : ∃ r, r = buildA 5 (1 + E % 3) (2 + K % 3) q := ⟨_, rfl⟩
  rw [← hr] at hxs HT ⊢
  have HM1 := Lib.hid (HM0.out.trans hm1)
  have hpu := HT.out.puts
  rw [← hxs] at hpu
  have hln : xs.length ≤ 1000 := by have := HT.out.few; rw [← hxs, List.length_map] at this; omega
  have hql := HT.out.tame.len
  obtain ⟨hsl, hbs⟩ := hP.pages hln (fun x hx => hpu.bodies _ (List.mem_map_of_mem hx))
  obtain ⟨pa, pc, rfl, _, _⟩ := hP.row.form
  have hqs : Sl NoB w1 2 encP vl q := hO.sl encP_ok.len (by omega)
  have m2 : Ext w1 (w1.alloc (.cells #[.slice pa xs.length pc, .int .i64 (r.2.1 : Int), .int .i64 (r.2.2 : Int)] 27)) := (Mods.refl _ w1).alloc _
  have HPC := Lib.hid (pagerOf_any (HL.out.mods ((HM1.out.trans m2).ext)) xs (.slice pa xs.length pc) (hsl.ext m2) (fun x hx => (hbs x hx).ext m2) hpu hln)
  have HTB := Lib.hid (Blk.new w1 #[.slice pa xs.length pc, .int .i64 (r.2.1 : Int), .int .i64 (r.2.2 : Int)] 27)
  have HM2 := Lib.hid (HM1.out.trans m2)
  have HQS := Lib.hid (hqs.ext m2)
  obtain ⟨va, vc, rfl, v1, v2, v3, _⟩ := hqs
  unfold maxLen at v2
  rw [hxs] at HPC
  have HQ := Lib.hid hq
  clear hP hxs hm1 hr hpu hln hsl hbs m2 hO hq
  go_wp2_with fail
  refine (HPC.out).mono ?_
  rintro e w2 ⟨c, s, P, F, rfl, hG, hN⟩
  have hS := LG.startZ (gen := 5) hG hN 5 rfl
  have t0 := hS.c0
  have t1 := hS.c1
  have t2 : _ = some (Value.int .u64 5) := hS.c2
  have hb := hS.old HTB.out
  have b1 := hb.cell (o := 1) (v := .int .i64 (r.2.1 : Int)) rfl
  have HS := Lib.hid hS
  have HTT : Hid (putsG (G0 200) r.1).total := Lib.hid (G0_puts_total 200 r.1)
  have HGT := Lib.hid (look_any hS.env hS.sub hS.pg 5 (r.2.1 : Int) key (HTT.out.look _ _))
  have HWB : Hid (w1.heap.size < w2.heap.size) := Lib.hid (Nat.lt_of_lt_of_le (by simp) hN.size)
  rw [pgV5] at HGT ⊢
  clear hG hN hS hb
  go_wp2_with fail
  refine (HGT.out).mono ?_
  rintro e w3 hd
  cases hkb : keyB key with
  | false =>
    rw [look_no _ _ hkb] at hd
    obtain ⟨P3, F3, hS3, f, rfl, hE3⟩ := HS.out.done hd
    have HS3 := Lib.hid hS3
    have HTL := Lib.hid (tellsT hS3.env HFU.out hE3 2 (by omega) rfl)
    have HX := Lib.hid (HM2.out.trans hS3.ext0)
    have HAW := Lib.hid (awake11_any (HL.out.mods HX.out.ext))
    have HK := Lib.hid (key07_t key w3 false hkb)
    clear hd hS3 hE3 t0 t1 t2 b1 hkb
    go_wp2_with fail
    refine (HK.out).mono ?_
    rintro e w4 ⟨rfl, rfl⟩
    go_wp2_with fail
    refine (HTL.out).mono ?_
    rintro e w4 ⟨rfl, rfl⟩
    go_wp2_with fail
    refine (HAW.out).mono ?_
    rintro e w4 ⟨rfl, hm4⟩
    have HM4 := Lib.hid (HX.out.trans hm4)
    clear hm4
    go_wp2_with fail
    go_ret
    exact ⟨rfl, HM4.out⟩
  | true =>
    rw [HT.out.tree.look hkb] at hd
    obtain ⟨P3, F3, hS3, hres⟩ := HS.out.done hd
    have HS3 := Lib.hid hS3
    have HK := Lib.hid (key07_t key w3 true hkb)
    have HF11 := Lib.hid (find11_any (w := w3) q (.slice va q.length vc) (hS3.sl HQS.out) (by omega) key)
    clear hd hS3 t0 t1 t2 b1 hkb
    have HRES : Hid (∃ v b, e = .returned (.tuple #[.string v, .bool b, .nilIface]) ∧ v = (findP key q).getD e0 ∧ b = (findP key q).isSome) := Lib.hid (by
      cases hf : findP key q with
      | none => rw [hf] at hres; exact ⟨_, _, hres, rfl, rfl⟩
      | some v => rw [hf] at hres; exact ⟨_, _, hres, rfl, rfl⟩)
    clear hres
    obtain ⟨v, b, rfl, hv, hb⟩ := HRES.out
    have HV := Lib.hid hv
    have HB := Lib.hid hb
    clear hv hb HRES
    go_wp2_with fail
    refine (HK.out).mono ?_
    rintro e w4 ⟨rfl, rfl⟩
    go_wp2_with fail
    refine (HF11.out).mono ?_
    rintro e w4 ⟨rfl, rfl⟩
    rw [← HV.out, ← HB.out]
    go_wp2_with fail
    go_loopg [14] q.length (fun m v14 wr => ∃ (k : Nat), k + m = q.length ∧ v14 = .int .i64 (k : Int) ∧ Hid (∃ P F, LG ad (w1.alloc (.cells #[.slice pa xs.length pc, .int .i64 (r.2.1 : Int), .int .i64 (r.2.2 : Int)] 27)) wr w2.heap.size c s 5 P F (putsG (G0 200) r.1) (marksS (spNew 200) r.1)))
    case atStart => exact ⟨0, by omega, rfl, Lib.hid ⟨P3, F3, HS3.out⟩⟩
    case round =>
      obtain ⟨k, hkm, rfl, HSK⟩ := hrel
      obtain ⟨P4, F4, hS4⟩ := HSK.out
      have HS4 := Lib.hid hS4
      clear hS4
      by_cases hlt : k < q.length
      · obtain ⟨x, hx⟩ : ∃ x, q[k]? = some x := ⟨_, List.getElem?_eq_getElem hlt⟩
        have hmem := List.mem_of_getElem? hx
        obtain ⟨_, _, hes, _, _, _, hss⟩ := HQS.out
        injection hes with hes _ hec
        subst hes hec
        obtain ⟨b5, off, rfl, hbb, hF, hc⟩ := Sl.at hss (Mods.refl _ _) (fun _ _ f => f) k hlt
        have hx' : q[k] = x := by rw [List.getElem?_eq_getElem hlt] at hx; exact Option.some.inj hx
        rw [hx'] at hc
        have HD0 : Hid (World.cell? _ ⟨b5, off + k * 2, none⟩ = some (.string x.1)) := Lib.hid (hc 0 _ rfl)
        have HD1 : Hid (World.cell? _ ⟨b5, off + k * 2 + 1, none⟩ = some (.string x.2)) := Lib.hid (hc 1 _ rfl)
        have c0 := cellE HS4.out.ext0 HD0.out
        have t0 := HS4.out.c0
        have t1 := HS4.out.c1
        have t2 : _ = some (Value.int .u64 5) := HS4.out.c2
        have b1 := (HS4.out.old HTB.out).cell (o := 1) (v := .int .i64 (r.2.1 : Int)) rfl
        have HLK : Hid (lookA (putsG (G0 200) r.1) (r.2.1 : Int) x.1 = .inl (some x.2)) := Lib.hid (by rw [HT.out.tree.look (HT.out.tame.ok x hmem).1, find_mem HT.out.tame.sorted hmem])
        have HGT2 := Lib.hid (look_any HS4.out.drew.env HS4.out.drew.sub HS4.out.drew.pg 5 (r.2.1 : Int) x.1 (HTT.out.look _ _))
        rw [HLK.out] at HGT2
        obtain ⟨st, id, at_, n, en, hA, hst⟩ := HT.out.tree.held HT.out.tame.sorted HT.out.tame.ok hmem
        have HA := Lib.hid hA
        have HST := Lib.hid hst
        have i1 : (0 : Int) ≤ (k : Int) := by omega
        have i2 : (k : Int) < (q.length : Int) := by omega
        rw [pgV5] at HGT2
        clear hc hx hx' hmem hA hss hst
        go_wp2_with fail
        go_region_held3 (fun w' => w'.cell? ⟨w2.heap.size, 0, none⟩ = some (.pointer (some ⟨c, 0, none⟩)) ∧ w'.cell? ⟨w2.heap.size, 1, none⟩ = some (.pointer (some ⟨s, 0, none⟩)) ∧ w'.cell? ⟨w2.heap.size, 2, none⟩ = some (.int .u64 5) ∧ w'.cell? ⟨w1.heap.size, 1, none⟩ = some (.int .i64 (r.2.1 : Int)) ∧ w'.cell? ⟨b5, off + k * 2, none⟩ = some (.string x.1))
          (first | (with_reducible exact ⟨t0, t1, t2, b1, c0⟩) | (with_reducible exact ⟨y0, y1, y2, y3, y4⟩) | go_keep)
          (first
            | (go_at_call 11; (with_reducible refine (HGT2.out).mono ?_); rintro e w4 hd; obtain ⟨P5, F5, hS5, rfl⟩ := HS4.out.drew.done hd; have y0 := hS5.c0; have y1 := hS5.c1; have y2 : _ = some (Value.int .u64 5) := hS5.c2; have y3 := (hS5.old HTB.out).cell (o := 1) (v := .int .i64 (r.2.1 : Int)) rfl; have y4 := cellE hS5.ext0 HD0.out)
            | fail)
        have y5 := cellE hS5.ext0 HD1.out
        have HS5 := Lib.hid hS5
        have HHD := Lib.hid (held_any hS5.drew.env hS5.drew.sub hS5.drew.pg 5 (r.2.1 : Int) x HTT.out HA.out HST.out)
        rw [pgV5] at HHD
        clear t0 t1 t2 b1 c0 hd hS5
        go_wp2_with fail
        go_region_held3 (fun w' => w'.cell? ⟨w2.heap.size, 0, none⟩ = some (.pointer (some ⟨c, 0, none⟩)) ∧ w'.cell? ⟨w2.heap.size, 1, none⟩ = some (.pointer (some ⟨s, 0, none⟩)) ∧ w'.cell? ⟨w2.heap.size, 2, none⟩ = some (.int .u64 5) ∧ w'.cell? ⟨w1.heap.size, 1, none⟩ = some (.int .i64 (r.2.1 : Int)) ∧ w'.cell? ⟨b5, off + k * 2, none⟩ = some (.string x.1) ∧ w'.cell? ⟨b5, off + k * 2 + 1, none⟩ = some (.string x.2))
          (first | (with_reducible exact ⟨y0, y1, y2, y3, y4, y5⟩) | (with_reducible exact ⟨z0, z1, z2, z3, z4, z5⟩) | go_keep)
          (first
            | (go_at_call 16; (with_reducible refine (HHD.out).mono ?_); rintro e w6 hd; obtain ⟨P6, F6, hS6, rfl⟩ := HS5.out.drew.done hd; have z0 := hS6.c0; have z1 := hS6.c1; have z2 : _ = some (Value.int .u64 5) := hS6.c2; have z3 := (hS6.old HTB.out).cell (o := 1) (v := .int .i64 (r.2.1 : Int)) rfl; have z4 := cellE hS6.ext0 HD0.out; have z5 := cellE hS6.ext0 HD1.out)
            | fail)
        all_goals
          have HS6 := Lib.hid hS6
          clear y0 y1 y2 y3 y4 y5 z0 z1 z2 z3 z4 z5 hd hS6
          go_wp2_with fail
          go_roundg (gk - 1)
          case measure => omega
          case rel => exact ⟨k + 1, by omega, by go_num, Lib.hid ⟨P6, F6, HS6.out⟩⟩
      · have HX := Lib.hid (HM2.out.trans HS4.out.ext0)
        have HAW := Lib.hid (awake11_any (HL.out.mods HX.out.ext))
        go_wp2_with fail
        refine (HAW.out).mono ?_
        rintro e w4 ⟨rfl, hm4⟩
        have HM4 := Lib.hid (HX.out.trans hm4)
        clear hm4
        go_wp2_with fail
        go_ret
        exact ⟨rfl, HM4.out⟩
end Go.Proofs.YtmgfneijcfjlfaaGreatDoor
