/- LookupPaths, walked. -/
import Derived.Test.YtmgfneijcfjlfaaGreatDoorK30
import Derived.Test.YtmgfneijcfjlfaaGreatDoorK34
import Derived.Test.YtmgfneijcfjlfaaGreatDoorK37
namespace Go.Proofs.YtmgfneijcfjlfaaGreatDoor
open Go.RowKit
attribute [local go_sem ↓] Go.wp_at_zero Go.wp_at_succ
theorem PathA.len {V : Nat → Option NodeA} {key : ByteArray} {id d : Nat} {st : List (Nat × Nat)} {m : NodeA} (h : PathA V key id d st m) : st.length = d := by
  induction h with
  | leaf => rfl
  | inner _ _ _ _ ih => rw [List.length_cons, ih]
/-- one step of a path. -/
theorem PathA.step {G : GA} {key : ByteArray} {id d : Nat} {st : List (Nat × Nat)} {m : NodeA} (h : PathA G.node key id d st m) :
    ∃ n at_ r, st = (id, at_) :: r ∧ G.load (id : Int) = .inl n ∧ (findN n key).1 = at_ ∧ ((n.leaf = true ∧ r = [] ∧ d = 1) ∨ (n.leaf = false ∧ ∃ (k : Nat) (d' : Nat), at_ < n.kids.length ∧ n.kids.getD at_ 0 = (k : Int) ∧ d = d' + 1 ∧ PathA G.node key k d' r m)) := by
  cases h with
  | @leaf _ _ h1 h2 => exact ⟨m, _, [], rfl, (GA.node_load h1).2, by rw [findN_leaf h2], .inl ⟨h2, rfl, rfl⟩⟩
  | @inner _ n d st _ k h1 h2 h3 h4 =>
    have hk0 := node_kids _ n k h1 (List.mem_of_getElem? h3)
    refine ⟨n, _, st, rfl, (GA.node_load h1).2, by rw [findN_inner h2], .inr ⟨h2, k.toNat, d, (List.getElem?_eq_some_iff.1 h3).1, ?_, rfl, h4⟩⟩
    rw [kids_at h3]; omega
section
variable {ad : Nat → Addr} {w0 w w' : World} {B c s gen : Nat} {P P' F F' : Nat → Prop} {G G' : GA} {l l' : List Nat}
theorem LG.done2 (h : LG ad w0 w B c s gen P F G l) {R : (Nat → Prop) → World → Ending → Prop} {e : Ending} (hd : PgDone F P ad w c s G' l' R e w') : ∃ P' F', LG ad w0 w' B c s gen P' F' G' l' ∧ Nxt P P' F F' ad w w' ∧ R F' w' e := by
  obtain ⟨P', F', g, n, r⟩ := hd
  exact ⟨P', F', h.step n g, n, r⟩
end
set_option maxRecDepth 100000 in
set_option maxHeartbeats 2000000 in
theorem LookupPaths_any {ad : Nat → Addr} {w : World} (hL : Env NoB ad w) (hfu : Full ad) (l : List PairS) (lv : Value) (hl : Sl NoB w 2 encP lv l) (E K : Nat) (hE : E < 256) (hK : K < 256) (key : ByteArray) :
    Calls Tryz.prog 4 #[.agg #[lv, .int .u8 (E : Int), .int .u8 (K : Int)], .string key] w fun e w' => e = .returned (.bool true) ∧ Ext w w' := by
  have HL := Lib.hid hL
  have HFU := Lib.hid hfu
  have HT := Lib.hid (tree_on (tameP_ok 300 l) (e := 1 + E % 3) (k := 2 + K % 3) (by omega) (by omega) (by omega) (by omega))
  have m0 : Ext w (w.alloc (.cells #[lv, .int .u8 (E : Int), .int .u8 (K : Int)] 24)) := (Mods.refl _ w).alloc _
  have HBC := Lib.hid (built_any l lv (hl.ext m0) E K hE hK)
  have HM0 := Lib.hid m0
  obtain ⟨la, lc, rfl, _, _, _, _⟩ := hl
  clear hL hfu m0
  go_enter Tryz.func4, Tryz.ntmps4
  go_wp2_with fail
  refine (HBC.out).mono ?_
  rintro e w1 ⟨pv, xs, vl, rfl, hP, hxs, hO, hm1⟩
  obtain ⟨q, hq⟩ : ∃ q, q = tameP 300 l := ⟨_, rfl⟩
  rw [← hq] at hxs HT hO ⊢
  obtain ⟨r, hr⟩ : ∃ r, r = buildA 5 (1 + E % 3) (2 + K % 3) q := ⟨_, rfl⟩
  rw [← hr] at hxs HT ⊢
  have HM1 := Lib.hid (HM0.out.trans hm1)
  have hpu := HT.out.puts
  rw [← hxs] at hpu
  have hln : xs.length ≤ 1000 := by have := HT.out.few; rw [← hxs, List.length_map] at this; omega
  have hql := HT.out.tame.len
  obtain ⟨hsl, hbs⟩ := hP.pages hln (fun x hx => hpu.bodies _ (List.mem_map_of_mem hx))
  obtain ⟨pa, pc, rfl, _, _⟩ := hP.row.form
  have hqs : Sl NoB w1 2 encP vl q := hO.sl encP_ok.len (by omega)
  have m2 : Ext w1 (w1.alloc (.cells #[.slice pa xs.length pc, .int .i64 (r.2.1 : Int), .int .i64 (r.2.2 : Int)] 27)) := (Mods.refl _ w1).alloc _
  have HPC := Lib.hid (pagerOf_any (HL.out.mods ((HM1.out.trans m2).ext)) xs (.slice pa xs.length pc) (hsl.ext m2) (fun x hx => (hbs x hx).ext m2) hpu hln)
  have HTB := Lib.hid (Blk.new w1 #[.slice pa xs.length pc, .int .i64 (r.2.1 : Int), .int .i64 (r.2.2 : Int)] 27)
  have HM2 := Lib.hid (HM1.out.trans m2)
  have HQS := Lib.hid (hqs.ext m2)
  obtain ⟨va, vc, rfl, v1, v2, v3, _⟩ := hqs
  unfold maxLen at v2
  rw [hxs] at HPC
  have HQ := Lib.hid hq
  clear hP hxs hm1 hr hpu hln hsl hbs m2 hO hq
  go_wp2_with fail
  refine (HPC.out).mono ?_
  rintro e w2 ⟨c, s, P, F, rfl, hG, hN⟩
  have hS := LG.startZ (gen := 5) hG hN 5 rfl
  have t0 := hS.c0
  have t1 := hS.c1
  have t2 : _ = some (Value.int .u64 5) := hS.c2
  have hb := hS.old HTB.out
  have b1 := hb.cell (o := 1) (v := .int .i64 (r.2.1 : Int)) rfl
  have HS := Lib.hid hS
  have HTT : Hid (putsG (G0 200) r.1).total := Lib.hid (G0_puts_total 200 r.1)
  have HPT := Lib.hid (path_any hS.env hS.sub hS.pg 5 (r.2.1 : Int) key (HTT.out.find _ _ _))
  rw [pgV5] at HPT ⊢
  clear hG hN hS hb
  go_wp2_with fail
  refine (HPT.out).mono ?_
  rintro e w3 hd
  cases hkb : keyB key with
  | false =>
    rw [path_no _ _ hkb] at hd
    obtain ⟨P3, F3, hS3, f, rfl, hE3⟩ := HS.out.done hd
    have HS3 := Lib.hid hS3
    have HTL := Lib.hid (tellsT hS3.env HFU.out hE3 2 (by omega) rfl)
    have HX := Lib.hid (HM2.out.trans hS3.ext0)
    have HAW := Lib.hid (awake11_any (HL.out.mods HX.out.ext))
    have HK := Lib.hid (key07_t key w3 false hkb)
    clear hd hS3 hE3 t0 t1 t2 b1 hkb
    go_wp2_with fail
    refine (HK.out).mono ?_
    rintro e w4 ⟨rfl, rfl⟩
    go_wp2_with fail
    refine (HTL.out).mono ?_
    rintro e w4 ⟨rfl, rfl⟩
    go_wp2_with fail
    refine (HAW.out).mono ?_
    rintro e w4 ⟨rfl, hm4⟩
    have HM4 := Lib.hid (HX.out.trans hm4)
    clear hm4
    go_wp2_with fail
    go_ret
    exact ⟨rfl, HM4.out⟩
  | true =>
    have HPA : Hid (∃ st : List (Nat × Nat), st.length = r.2.2 ∧ pathA (putsG (G0 200) r.1) (r.2.1 : Int) key = .inl (stI st, (findP key q).isSome) ∧ (st = [] ∨ ∃ m, PathA (putsG (G0 200) r.1).node key r.2.1 r.2.2 st m)) := Lib.hid (by
      rcases HT.out.tree.path hkb with ⟨h1, h2, h3, h4⟩ | ⟨st, m, p, h1, h2, h3, h4, h5⟩
      · refine ⟨[], h3.symm, ?_, .inl rfl⟩
        rw [h4, h1]; rfl
      · exact ⟨st, h3, h5, .inr ⟨m, h1⟩⟩)
    obtain ⟨st, hst, hpa, hstp⟩ := HPA.out
    rw [hpa] at hd
    obtain ⟨P3, F3, hS3, sv, rfl, hsl⟩ := HS.out.done hd
    have HS3 := Lib.hid hS3
    have HK := Lib.hid (key07_t key w3 true hkb)
    have HF11 := Lib.hid (find11_any (w := w3) q (.slice va q.length vc) (hS3.sl HQS.out) (by omega) key)
    have hd2 : r.2.2 ≤ 16 := by
      rcases HT.out.tree with ⟨_, _, h⟩ | ⟨_, _, h, _⟩
      · omega
      · exact h
    obtain ⟨sa, sc, rfl, hs1, hs2, hs3, hss⟩ := _root_.id hsl
    unfold maxLen at hs2
    have hsl1 : (stI st).length = r.2.2 := by simp [stI, hst]
    have HSL := Lib.hid hss
    have HSTP := Lib.hid hstp
    have HST := Lib.hid hst
    have HSL1 := Lib.hid hsl1
    rw [hsl1] at hs1 hs3 ⊢
    have hb3 := HS3.out.old HTB.out
    have b1 := hb3.cell (o := 1) (v := .int .i64 (r.2.1 : Int)) rfl
    have b2 := hb3.cell (o := 2) (v := .int .i64 (r.2.2 : Int)) rfl
    clear hd hS3 t0 t1 t2 hkb hpa hstp hst hsl hss hsl1 hb3 HPA
    go_wp2_with fail
    refine (HK.out).mono ?_
    rintro e w4 ⟨rfl, rfl⟩
    go_wp2_with fail
    refine (HF11.out).mono ?_
    rintro e w4 ⟨rfl, rfl⟩
    go_wp2_with fail
    go_loopg [14, 15] r.2.2 (fun m v14 v15 wr => ∃ (k idk : Nat), k + m = r.2.2 ∧ v14 = .int .i64 (idk : Int) ∧ v15 = .int .i64 (k : Int) ∧ Hid (∃ P F, LG ad (w1.alloc (.cells #[.slice pa xs.length pc, .int .i64 (r.2.1 : Int), .int .i64 (r.2.2 : Int)] 27)) wr w2.heap.size c s 5 P F (putsG (G0 200) r.1) (marksS (spNew 200) r.1) ∧ Nxt P3 P F3 F ad w3 wr) ∧ Hid (m = 0 ∨ ∃ mm, PathA (putsG (G0 200) r.1).node key idk m (st.drop k) mm))
    case atStart => exact ⟨0, r.2.1, by omega, rfl, rfl, Lib.hid ⟨P3, F3, HS3.out, Nxt.refl HS3.out.env HS3.out.sub⟩, Lib.hid (by
      rcases HSTP.out with h | ⟨mm, h⟩
      · left; rw [← HST.out, h]; rfl
      · right; exact ⟨mm, h⟩)⟩
    case round =>
      obtain ⟨k, idk, hkm, rfl, rfl, HSK, HPK⟩ := hrel
      obtain ⟨P4, F4, hS4, hN4⟩ := HSK.out
      have HS4 := Lib.hid hS4
      have HN4 := Lib.hid hN4
      clear hS4 hN4
      by_cases hlt : k < r.2.2
      · obtain ⟨mm, hpk⟩ : ∃ mm, PathA (putsG (G0 200) r.1).node key idk gk (st.drop k) mm := by
          rcases HPK.out with h | h
          · omega
          · exact h
        obtain ⟨n, at_, rr, hdr, hld, hfn, hnx⟩ := hpk.step
        have hlk : k < (stI st).length := by rw [HSL1.out]; exact hlt
        obtain ⟨b5, off, rfl, hbb, hF, hc⟩ := Sl.at HSL.out HN4.out.stp.mods (fun q _ hp => HS3.out.sub q hp) k hlk
        have hel : (stI st)[k] = ((idk : Int), at_) := by
          have h1 : st[k]? = some (idk, at_) := by
            have h2 := congrArg (fun l => l[0]?) hdr
            simp only [List.getElem?_drop, Nat.add_zero, List.getElem?_cons_zero] at h2
            exact h2
          have h3 : (stI st)[k]? = some ((idk : Int), at_) := by unfold stI; rw [List.getElem?_map, h1]; rfl
          rw [List.getElem?_eq_getElem hlk] at h3
          exact Option.some.inj h3
        rw [hel] at hc
        have c0 : wr.cell? ⟨b5, off + k * 2, none⟩ = some (.int .i64 (idk : Int)) := hc 0 _ rfl
        have c1 : wr.cell? ⟨b5, off + k * 2 + 1, none⟩ = some (.int .i64 (at_ : Int)) := hc 1 _ rfl
        have hP4 : ¬ P4 b5 := fun hp => hF (HN4.out.oldF b5 hbb (HN4.out.sub _ hp))
        have HLD := Lib.hid (load_any HS4.out.env HS4.out.sub HS4.out.pg 5 (idk : Int) (HTT.out.knows _))
        rw [hld, pgV5] at HLD
        have t0 := HS4.out.c0
        have t1 := HS4.out.c1
        have t2 : _ = some (Value.int .u64 5) := HS4.out.c2
        have HP4 := Lib.hid hP4
        have HNX := Lib.hid hnx
        have HFN := Lib.hid hfn
        have HDR := Lib.hid hdr
        have i1 : (0 : Int) ≤ (k : Int) := by omega
        have i2 : (k : Int) < (r.2.2 : Int) := by omega
        clear hpk hdr hld hfn hnx hlk hF hc hel hP4
        go_wp2_with fail
        refine (HLD.out).mono ?_
        rintro e w5 hd
        obtain ⟨P5, F5, hS5, hN5, ve, vk, vi, rfl, hve, hvk, hvi⟩ := HS4.out.done2 hd
        have d0 := cellM hN5.stp.mods c0 HP4.out
        have d1 := cellM hN5.stp.mods c1 HP4.out
        have m5 : Ext w5 (w5.alloc (.cells #[.bool n.leaf, ve, vk, vi] 57)) := (Mods.refl _ w5).alloc _
        have HFC := Lib.hid (find07_any n ve vk vi key (hve.ext m5) (hvk.ext m5))
        unfold Find07 at HFC
        have HS5 := Lib.hid (hS5.ext m5)
        have HN5 := Lib.hid ((HN4.out.trans hN5).trans (Nxt.ext hS5.env hS5.sub m5))
        have HX5 := Lib.hid (Blk.new w5 #[.bool n.leaf, ve, vk, vi] 57)
        obtain ⟨ea, ec, rfl, _, _, _, _⟩ := hve
        obtain ⟨ka, kc, rfl, _, _, _, _⟩ := hvk
        have HVI := Lib.hid (hvi.ext m5)
        obtain ⟨ia, ic, rfl, ii1, ii2, _, _⟩ := hvi
        have hb5 := cell_lt d0
        have e0 := cellE m5 d0
        have e1 := cellE m5 d1
        clear hd hS5 hN5 t0 t1 t2 c0 c1 d0 d1 m5
        go_wp2_with fail
        refine (HFC.out).mono ?_
        rintro e w6 ⟨rfl, hm6⟩
        rw [HFN.out]
        have f0 := cellE hm6 e0
        have f1 := cellE hm6 e1
        have hx6 := HX5.out.ext hm6
        have x0 := hx6.cell (o := 0) (v := .bool n.leaf) rfl
        have x3 := hx6.cell (o := 3) (v := .slice ia n.kids.length ic) rfl
        have HS6 := Lib.hid (HS5.out.ext hm6)
        have HN6 := Lib.hid (HN5.out.trans (Nxt.ext HS5.out.env HS5.out.sub hm6))
        have HVI6 := Lib.hid (HVI.out.ext hm6)
        clear e0 e1 hx6 hm6
        rcases HNX.out with ⟨hl, hr, hg⟩ | ⟨hl, k2, d2, hat, hkd, hg, hp2⟩
        · rw [hl] at x0
          have hb1 : ((k : Int) == (r.2.2 : Int) - 1) = true := by rw [beq_iff_eq]; omega
          clear hl hr
          go_wp2_with fail
          go_roundg 0
          case measure => omega
          case rel => exact ⟨k + 1, idk, by omega, rfl, by go_num, Lib.hid ⟨P5, F5, HS6.out, HN6.out⟩, Lib.hid (.inl rfl)⟩
        · rw [hl] at x0
          have hb1 : ((k : Int) == (r.2.2 : Int) - 1) = false := by
            rw [beq_eq_false_iff_ne]
            have := hp2.pos
            omega
          obtain ⟨_, _, hie, _, _, _, his⟩ := HVI6.out
          injection hie with hie _ hic
          subst hie hic
          obtain ⟨b6, off6, rfl, _, _, hc6⟩ := Sl.at his (Mods.refl _ _) (fun _ _ f => f) at_ hat
          have hkc : n.kids[at_] = (k2 : Int) := by
            have : n.kids.getD at_ 0 = n.kids[at_] := by simp [List.getD, hat]
            rw [← this]; exact hkd
          rw [hkc] at hc6
          have q0 : w6.cell? ⟨b6, off6 + at_, none⟩ = some (.int .i64 (k2 : Int)) := by have := hc6 0 _ rfl; simpa using this
          have j1 : (0 : Int) ≤ (at_ : Int) := by omega
          have j2 : (at_ : Int) < (n.kids.length : Int) := by omega
          have HNX2 : Hid (PathA (putsG (G0 200) r.1).node key k2 d2 (st.drop (k + 1)) mm) := Lib.hid (by
            have h1 := congrArg (List.drop 1) HDR.out
            rw [List.drop_drop] at h1
            rw [h1]
            exact hp2)
          clear hl hc6 hkc hkd hp2 his
          go_wp2_with fail
          go_roundg (gk - 1)
          case measure => omega
          case rel => exact ⟨k + 1, k2, by omega, rfl, by go_num, Lib.hid ⟨P5, F5, HS6.out, HN6.out⟩, Lib.hid (.inr ⟨mm, by rw [show gk - 1 = d2 by omega]; exact HNX2.out⟩)⟩
      · have HX := Lib.hid (HM2.out.trans HS4.out.ext0)
        have HAW := Lib.hid (awake11_any (HL.out.mods HX.out.ext))
        go_wp2_with fail
        refine (HAW.out).mono ?_
        rintro e w4 ⟨rfl, hm4⟩
        have HM4 := Lib.hid (HX.out.trans hm4)
        clear hm4
        go_wp2_with fail
        go_ret
        exact ⟨rfl, HM4.out⟩
end Go.Proofs.YtmgfneijcfjlfaaGreatDoor
