/- ChainWrites, walked. -/
import Derived.Test.YtidjkcfjocppmaaDoorKBody
import Derived.Test.YtidjkcfjocppmaaDoorKLawC
namespace Go.Proofs.YtidjkcfjocppmaaDoor
open Go.RowKit
attribute [local go_sem ↓] Go.wp_at_zero Go.wp_at_succ
section
variable {ad : Nat → Addr} {w0 w w' : World} {B c s : Nat} {P P' F F' : Nat → Prop} {G G' : GA} {l l' : List Nat}
/-- Get, in a law, of what is known. -/
def LsGot (ad : Nat → Addr) (w0 : World) (B c s : Nat) (P F : Nat → Prop) (w : World) (G : GA) (l : List Nat) (kd pid : Int) (gn : Nat) (bd : List UInt8) (ln : Nat) (e : Ending) (w' : World) : Prop :=
  ∃ P' F' a cap, e = .returned (.tuple #[.agg #[.int .i64 kd, .int .i64 pid, .int .u64 (gn : Int), .slice a ln cap], .nilIface]) ∧ LS ad w0 w' B c s P' F' G l ∧ Sl F' w' 1 encB (.slice a ln cap) bd ∧ Nxt P P' F F' ad w w'
theorem lsGet (h : LS ad w0 w B c s P F G l) (id : Nat) (hid : id < G.blocks) (kd pid : Int) (gn : Nat) (bd : List UInt8) (ln : Nat) (hln : ln = bd.length) (hv : G.view id = some (.inl ⟨kd, pid, gn, bd⟩)) :
    Calls Tryd.prog 24 #[.pointer (some ⟨c, 0, none⟩), .int .i64 (id : Int)] w (LsGot ad w0 B c s P F w G l kd pid gn bd ln) := by
  refine (pgGet h.env h.sub h.pg (id : Int) (fun _ => ⟨_, by rw [Int.toNat_natCast]; exact hv⟩)).mono ?_
  rintro e w' ⟨P', F', hG, hN, hr⟩
  rw [get_view hid hv] at hr
  rcases hr with ⟨p, bv, h1, rfl, h2⟩ | ⟨er, f, h1, _⟩
  · injection h1 with h1
    subst h1
    obtain ⟨a, cap, rfl, _⟩ := _root_.id h2
    subst hln
    exact ⟨P', F', a, cap, rfl, h.step hN hG, h2, hN⟩
  · cases h1
/-- List, in a law, of what is known. -/
def LsListed (ad : Nat → Addr) (w0 : World) (B c s : Nat) (P F : Nat → Prop) (w : World) (G : GA) (l : List Nat) (k m : Nat) (e : Ending) (w' : World) : Prop :=
  ∃ P' F' iv, e = .returned (.tuple #[iv, .nilIface]) ∧ LS ad w0 w' B c s P' F' G l ∧ Sl P' w' 1 encI iv ((idsK k m).map (fun q : Nat => (q : Int))) ∧ Nxt P P' F F' ad w w'
theorem lsList {k : Nat} (h : LS ad w0 w B c s P F G l) (hs : G.size = 256) (hb : G.blocks ≤ 256) (v : List UInt8) (n : Nat) (hn : v.length = n) (hH : Holds G 7 v k (ndK n)) (hk : k + 2 + ndK n ≤ G.blocks) (h25 : 25 ≤ n) (h4096 : n ≤ 4096) (id : Nat) (hid : id = k + 2) :
    Calls Tryd.prog 22 #[pgV c s 7, .int .i64 (id : Int), .int .i64 (n : Int)] w (LsListed ad w0 B c s P F w G l k (ndK n)) := by
  subst hid hn
  have hf : Fit v.length 228 (ndK v.length) := ndK_fit _ (by omega)
  obtain ⟨w1, w2⟩ := walk_all hf (by omega) hk hb hH
  have hz := chErr_holds hf (by omega) hk hb hH (by omega) (by omega)
  refine (chList_any h.env h.sub h.pg 7 ((k + 2 : Nat) : Int) (v.length : Int) (by omega) (fun _ _ => by rw [Int.toNat_natCast]; exact w2)).mono ?_
  rintro e w' ⟨P', F', hG, hN, ⟨_, iv, rfl, hi⟩ | ⟨er, f, he, _⟩⟩
  · refine ⟨P', F', iv, rfl, h.step hN hG, ?_, hN⟩
    rw [Int.toNat_natCast, w1] at hi
    have e : (idsK k (ndK v.length)).map (fun q : Nat => (q : Int)) = ((List.range' 0 (ndK v.length)).map (fun j => (((j + (k + 2) : Nat) : Int), pieceB v 228 j))).map (·.1) := by
      unfold idsK
      rw [List.range_eq_range', List.map_map, List.map_map]
      rfl
    rw [e]
    exact hi
  · rw [hz] at he; cases he
theorem slI {w : World} {v : Value} {x : List Nat} (h : Sl P w 1 encN v x) : Sl P w 1 encI v (x.map (fun k : Nat => (k : Int))) := by
  obtain ⟨a, cap, e1, h1, h2, h3, h4⟩ := h
  refine ⟨a, cap, by simpa using e1, by simpa using h1, h2, by simpa using h3, ?_⟩
  rcases h4 with h4 | ⟨b, off, ha, hb, hF, hc⟩
  · exact .inl (by simpa using h4)
  · refine .inr ⟨b, off, ha, hb, hF, fun i z hz j u hu => ?_⟩
    rw [List.getElem?_map] at hz
    obtain ⟨y, hy, rfl⟩ := Option.map_eq_some_iff.1 hz
    exact hc i y hy j u hu
end
set_option maxRecDepth 100000 in
set_option maxHeartbeats 4000000 in
theorem ChainWrites_any {ad : Nat → Addr} {w : World} (hL : Env NoB ad w) (hfu : Full ad) (n : Int) (seed : UInt8) (bl : Nat) (hbl : bl < 256) :
    Calls Tryd.prog 7 #[.int .i64 n, .int .u8 (seed.toNat : Int), .int .u8 (bl : Int)] w fun e w' => e = .returned (.bool true) ∧ Ext w w' := by
  obtain ⟨na, hna⟩ : ∃ k : Nat, lenI n = (k : Int) := ⟨(lenI n).toNat, by have := lenI_range n; omega⟩
  have ha1 : 25 ≤ na ∧ na ≤ 4096 := by have := lenI_range n; omega
  obtain ⟨ha25, ha4⟩ := ha1
  have HA := Lib.hid hna
  have MA := Lib.hid (ndK_le na ha4)
  have HL := Lib.hid hL
  have HFU := Lib.hid hfu
  have hs8 : seed.toNat < 256 := seed.toNat_lt
  obtain ⟨nb, hnb⟩ : ∃ nb : Nat, (8 : Int) + (bl : Int) % 20 = (nb : Int) := ⟨8 + bl % 20, by omega⟩
  have hnb1 : 8 ≤ nb ∧ nb ≤ 27 := by omega
  obtain ⟨hnb8, hnb27⟩ := hnb1
  clear hL hna hfu
  go_enter Tryd.func7, Tryd.ntmps7
  go_wp2_with fail
  refine (pager_any HL.out nb hnb8 (by omega)).mono ?_
  rintro e w1 ⟨c, s, P, F, rfl, hG, hN⟩
  have hS := LS.start hG hN
  rw [spK_zero nb (by omega)] at hS
  have HS := Lib.hid hS
  have t0 := hS.c0
  have t1 := hS.c1
  have t2 := hS.c2
  clear hG hN hS
  unfold pgV
  go_wp2_with fail
  refine (length_any n _).mono ?_
  rintro e w2 ⟨rfl, rfl⟩
  rw [HA.out]
  go_wp2_with fail
  refine (tx_any na ha4 seed _).mono ?_
  rintro e w2 ⟨rfl, hm2⟩
  have HS2 := Lib.hid (HS.out.ext hm2)
  clear hm2 t0 t1 t2
  have t0 := HS2.out.c0
  have t1 := HS2.out.c1
  have t2 := HS2.out.c2
  go_wp2_with fail
  refine (need10_any (na : Int) 256 _ (by omega) (by omega)).mono ?_
  rintro e w3 ⟨rfl, rfl⟩
  rw [ndK_need na (by omega)]
  obtain ⟨m, hm⟩ : ∃ m, m = ndK na := ⟨_, rfl⟩
  have hm18 : m ≤ 18 := by rw [hm]; exact MA.out
  have hm1 : 1 ≤ m := by rw [hm]; exact (ndK_fit na (by omega)).m1
  rw [← hm]
  have HM := Lib.hid hm
  clear hm
  go_wp2_with fail
  refine (pgFree HS2.out.pg).mono ?_
  rintro e w4 ⟨rfl, rfl⟩
  rw [spK_count nb 0 (by omega)]
  obtain ⟨fr, hfr⟩ : ∃ fr, fr = nb - 2 - 0 := ⟨_, rfl⟩
  rw [← hfr]
  have HFR2 : Hid ((fr : Int) = (nb : Int) - 2) := Lib.hid (by omega)
  have hfr27 : fr ≤ 27 := by omega
  clear hfr
  go_wp2_with fail
  refine (lsWrite HS2.out rfl rfl (by omega) (by show 0 + 100 ≤ _; omega) (tx na seed) (by rw [tx_size]; exact ha25) (by rw [tx_size]; exact ha4)).mono ?_
  rintro e w5 ht5
  obtain ⟨iv, ev, rfl⟩ := ht5.form
  clear t0 t1 t2
  by_cases hc : (m : Int) ≤ (fr : Int)
  · obtain ⟨id, hid, rfl, rfl, P5, F5, G5, hS5, hp5⟩ := ht5.okT (by rw [← HM.out]; have := HFR2.out; omega)
    obtain rfl : id = 2 := hid
    rw [← HM.out] at hS5 hp5
    have HS5 := Lib.hid hS5
    have HP5 := Lib.hid hp5
    have t0 := hS5.c0
    have t1 := hS5.c1
    have t2 := hS5.c2
    clear ht5 hS5 hp5
    go_wp2_with fail
    refine (First_any m (by omega) _).mono ?_
    rintro e w6 ⟨iv, rfl, hown, hm6⟩
    have hsl := Own.sl (F := P5) ⟨hown.1, fun g hg hp => by have := (hown.lt g hg).1; have := HS5.out.pg.bd g hp; omega⟩ encN_ok.len (by simp [firstL]; omega)
    have HS6 := Lib.hid (HS5.out.ext hm6)
    have HSL := Lib.hid hsl
    clear hown hm6 t0 t1 t2 hsl
    have t0 := HS6.out.c0
    have t1 := HS6.out.c1
    have t2 := HS6.out.c2
    obtain ⟨a0, cap0, rfl, q1, q2, q3, q4⟩ := HSL.out
    have hfl : (firstL m).length = m := by simp [firstL]
    rw [hfl] at q1 q3 HSL ⊢
    unfold maxLen at q2
    clear q4 hfl
    go_wp2_with fail
    refine (pgFree HS6.out.pg).mono ?_
    rintro e w7 ⟨rfl, rfl⟩
    rw [spK_count nb (0 + m) (by have := HFR2.out; omega)]
    obtain ⟨f2, hf2⟩ : ∃ f2, f2 = nb - 2 - (0 + m) := ⟨_, rfl⟩
    rw [← hf2]
    have hsub : (fr : Int) - (m : Int) = (f2 : Int) := by have := HFR2.out; omega
    clear hf2
    go_wp2_with fail
    clear hsub
    go_loopg [15] m (fun q v15 wr => ∃ (k : Nat) (P F : Nat → Prop), k + q = m ∧ v15 = .int .i64 k ∧ Hid (LS ad w wr w1.heap.size c s P F G5 (spK nb (0 + m)) ∧ Sl P wr 1 encN (.slice a0 m cap0) (firstL m)))
    case atStart => exact ⟨0, _, _, by omega, rfl, Lib.hid ⟨HS6.out, HSL.out⟩⟩
    case round =>
      obtain ⟨k, P8, F8, hk, rfl, HW⟩ := hrel
      by_cases hlt : k < m
      · have t0 := HW.out.1.c0
        obtain ⟨a0', cap0', eia, _, _, _, hcs⟩ := HW.out.2
        simp only [Value.slice.injEq] at eia
        obtain ⟨eia1, eia3, eia2⟩ := eia
        clear eia3
        subst eia1 eia2
        have hfl : (firstL m).length = m := by simp [firstL]
        rcases hcs with hcs | ⟨b, off, rfl, hbl2, hbP, hcs⟩
        · rw [hcs] at hfl; simp at hfl; omega
        · have hx : (firstL m)[k]? = some (k + 2) := by simp [firstL, hlt]
          have c0 := hcs k _ hx 0 _ rfl
          simp only [Nat.mul_one, Nat.add_zero] at c0
          obtain ⟨idk, hidk⟩ : ∃ idk, idk = k + 2 := ⟨_, rfl⟩
          rw [← hidk] at c0
          have HID := Lib.hid hidk
          obtain ⟨bd, hbd⟩ : ∃ bd, bd = leB 4 ((idsK 0 m).getD (k + 1) 0) ++ pieceB (textL na seed) 228 k := ⟨_, rfl⟩
          obtain ⟨ln, hln⟩ : ∃ ln, ln = bd.length := ⟨_, rfl⟩
          obtain ⟨pid, hpid⟩ : ∃ pid : Int, pid = (((idsK 0 m).getD k 0 : Nat) : Int) := ⟨_, rfl⟩
          have HLN := Lib.hid hln
          have HV : Hid (G5.view idk = some (.inl ⟨4, pid, 7, bd⟩)) := Lib.hid (by
            have := HP5.out.here rfl k hlt
            unfold PageK at this
            rw [HP5.out.size] at this
            rw [hidk, hbd, hpid]; exact this)
          have HBD := Lib.hid hbd
          have HBK : Hid (idk < G5.blocks) := Lib.hid (by rw [HP5.out.blocks]; show idk < nb; have := HFR2.out; omega)
          have mX : Ext wr (wr.alloc (.cells #[.int .i64 0, .int .i64 0, .int .u64 0, .slice none 0 0] 52)) := (Mods.refl _ wr).alloc _
          have HX0 := Lib.hid (Blk.new wr #[.int .i64 0, .int .i64 0, .int .u64 0, .slice none 0 0] 52)
          have HLD := Lib.hid (HW.out.1.plus (X := wr.heap.size) mX (Nat.le_refl _) (by simp)).drew
          have HPX : Hid (¬ P8 wr.heap.size) := Lib.hid (fun f => by have := HW.out.1.pg.bd _ f; omega)
          have c0X := (mX.cell (cell_lt c0) (fun f => f)).trans c0
          have HMX := Lib.hid mX
          have hl1 := HW.out.1.box.lt
          have HLZ := Lib.hid HW.out.1.drew
          clear mX
          clear hcs hx hfl hidk hbd hln hpid
          go_wp2_with fail
          go_region_held3 (fun w' => w'.cell? ⟨w1.heap.size, 0, none⟩ = some (.pointer (some ⟨c, 0, none⟩)) ∧ w'.cell? ⟨b, off + k, none⟩ = some (.int .i64 (idk : Int)))
            (first | (with_reducible exact ⟨x0, x1⟩) | (with_reducible exact ⟨q0, q1⟩) | go_keep)
            (first
              | (go_at_call 24; refine (lsGet HLZ.out idk HBK.out 4 pid 7 bd ln HLN.out HV.out).mono ?_; rintro e w9 ⟨P9, F9, a9, cap9, rfl, hS9, hb9, hN9⟩; have x0 := hS9.c0; have x1 := hN9.cellK (w := wr.drew) c0 hbP; have y1 := hS9.box.lt; have y2 := cell_lt x1)
              | (go_at_call 24; refine (lsGet HLD.out idk HBK.out 4 pid 7 bd ln HLN.out HV.out).mono ?_; rintro e w9 ⟨P9, F9, a9, cap9, rfl, hS9, hb9, hN9⟩; have x0 := hS9.c0; have x1 := hN9.cellK (w := (wr.alloc (.cells #[.int .i64 0, .int .i64 0, .int .u64 0, .slice none 0 0] 52)).drew) c0X hbP; have rb := hN9.blk (w := (wr.alloc (.cells #[.int .i64 0, .int .i64 0, .int .u64 0, .slice none 0 0] 52)).drew) HX0.out HPX.out; have r0 := rb.cell (o := 0) (v := .int .i64 0) rfl; have r1 := rb.cell (o := 1) (v := .int .i64 0) rfl; have r2 := rb.cell (o := 2) (v := .int .u64 0) rfl; have r3 := rb.cell (o := 3) (v := .slice none 0 0) rfl; have rf := rb.frozen; have mS := Mods.set4 (F := fun k => k = wr.heap.size) (Mods.refl _ w9) (.inr rfl) (.int .i64 4) (.int .i64 pid) (.int .u64 7) (.slice a9 ln cap9); have q0 := (mS.cell (cell_lt x0) (fun e => by omega)).trans x0; have q1 := (mS.cell (cell_lt x1) (fun e => by omega)).trans x1))
          rotate_left
          · have HS10 := Lib.hid (hS9.own (hN9.grow _ (.inr rfl)) (fun f => HPX.out (hN9.stp.old _ (by simp) f)) mS)
            have HX10 := Lib.hid (Blk.set4 rb (.int .i64 4) (.int .i64 pid) (.int .u64 7) (.slice a9 ln cap9))
            have HB10 := Lib.hid (hb9.mods (mS.mono (fun k hk => hN9.grow k (.inr hk))))
            have HI10 : Hid (Sl P9 _ 1 encN (.slice (some ⟨b, off, none⟩) m cap0) (firstL m)) := Lib.hid (HW.out.2.step (Mods.set4 ((HMX.out.drew.ext).trans hN9.stp.mods) (.inl (Nat.le_refl wr.heap.size)) (.int .i64 4) (.int .i64 pid) (.int .u64 7) (.slice a9 ln cap9)) (fun g hg hn hp => hn (hN9.stp.old g (by simp; omega) hp)))
            have r0 := HX10.out.cell (o := 0) (v := .int .i64 4) rfl
            have r2 := HX10.out.cell (o := 2) (v := .int .u64 7) rfl
            have r3 := HX10.out.cell (o := 3) (v := .slice a9 ln cap9) rfl
            clear hS9 hN9 hb9
            go_wp2_with fail
            go_region_held3 (fun w' => w'.cell? ⟨wr.heap.size, 0, none⟩ = some (.int .i64 4) ∧ w'.cell? ⟨wr.heap.size, 2, none⟩ = some (.int .u64 7) ∧ w'.cell? ⟨wr.heap.size, 3, none⟩ = some (.slice a9 ln cap9))
              (first | (with_reducible exact ⟨u0, u2, u3⟩) | (with_reducible exact ⟨v0, v2, v3⟩) | go_keep)
              (first
                | (go_at_call 26; refine (Body_is (tx na seed) _ m (HI10.out.ext (Mods.refl _ _).drew) (by omega) k hlt (by rw [tx_size]; have := (ndK_fit na (by omega)).left (i := k) (by rw [← HM.out]; exact hlt); omega) (by rw [tx_size]; exact ha4) bd HBD.out ln HLN.out).mono ?_; rintro e w11 ⟨a11, cap11, rfl, hb11, hm11⟩; have u0 := cellE hm11 r0; have u2 := cellE hm11 r2; have u3 := cellE hm11 r3)
                | (go_at_call 25; refine (SameBytes_any _ _ bd bd ((HB10.out.ext (Mods.refl _ _).drew).ext hm11) hb11).mono ?_; rintro e w12 ⟨rfl, hm12⟩; rw [show decide (bd = bd) = true from decide_eq_true rfl]; have v0 := cellE hm12 u0; have v2 := cellE hm12 u2; have v3 := cellE hm12 u3))
            have HME := Lib.hid (((Mods.refl _ _).drew.trans hm11).trans hm12)
            have HNX : Hid (LS ad w w12 w1.heap.size c s P9 _ G5 (spK nb (0 + m)) ∧ Sl P9 w12 1 encN (.slice (some ⟨b, off, none⟩) m cap0) (firstL m)) := Lib.hid ⟨HS10.out.ext HME.out, HI10.out.ext HME.out⟩
            clear hm11 hm12 hb11 u0 u2 u3 v0 v2 v3
            go_wp2_with fail
            go_roundg (gk - 1)
            case measure => omega
            case rel => exact ⟨k + 1, P9, _, by omega, by go_num, HNX⟩
          · have HS10 := Lib.hid (hS9.plus (X := w9.heap.size) ((Mods.refl _ w9).alloc (.cells #[.int .i64 4, .int .i64 pid, .int .u64 7, .slice a9 ln cap9] 52)) (Nat.le_refl _) (by simp))
            have HX10 := Lib.hid (Blk.new w9 #[.int .i64 4, .int .i64 pid, .int .u64 7, .slice a9 ln cap9] 52)
            have HB10 := Lib.hid (hb9.ext ((Mods.refl _ w9).alloc (.cells #[.int .i64 4, .int .i64 pid, .int .u64 7, .slice a9 ln cap9] 52)))
            have HI10 := Lib.hid ((hN9.slP (w := wr.drew) (HW.out.2.ext (Mods.refl _ wr).drew)).ext ((Mods.refl _ w9).alloc (.cells #[.int .i64 4, .int .i64 pid, .int .u64 7, .slice a9 ln cap9] 52)))
            have r0 := HX10.out.cell (o := 0) (v := .int .i64 4) rfl
            have r2 := HX10.out.cell (o := 2) (v := .int .u64 7) rfl
            have r3 := HX10.out.cell (o := 3) (v := .slice a9 ln cap9) rfl
            clear hS9 hN9 hb9
            go_wp2_with fail
            go_region_held3 (fun w' => w'.cell? ⟨w9.heap.size, 0, none⟩ = some (.int .i64 4) ∧ w'.cell? ⟨w9.heap.size, 2, none⟩ = some (.int .u64 7) ∧ w'.cell? ⟨w9.heap.size, 3, none⟩ = some (.slice a9 ln cap9))
              (first | (with_reducible exact ⟨u0, u2, u3⟩) | (with_reducible exact ⟨v0, v2, v3⟩) | go_keep)
              (first
                | (go_at_call 26; refine (Body_is (tx na seed) _ m (HI10.out.ext (Mods.refl _ _).drew) (by omega) k hlt (by rw [tx_size]; have := (ndK_fit na (by omega)).left (i := k) (by rw [← HM.out]; exact hlt); omega) (by rw [tx_size]; exact ha4) bd HBD.out ln HLN.out).mono ?_; rintro e w11 ⟨a11, cap11, rfl, hb11, hm11⟩; have u0 := cellE hm11 r0; have u2 := cellE hm11 r2; have u3 := cellE hm11 r3)
                | (go_at_call 25; refine (SameBytes_any _ _ bd bd ((HB10.out.ext (Mods.refl _ _).drew).ext hm11) hb11).mono ?_; rintro e w12 ⟨rfl, hm12⟩; rw [show decide (bd = bd) = true from decide_eq_true rfl]; have v0 := cellE hm12 u0; have v2 := cellE hm12 u2; have v3 := cellE hm12 u3))
            have HME := Lib.hid (((Mods.refl _ _).drew.trans hm11).trans hm12)
            have HNX : Hid (LS ad w w12 w1.heap.size c s P9 _ G5 (spK nb (0 + m)) ∧ Sl P9 w12 1 encN (.slice (some ⟨b, off, none⟩) m cap0) (firstL m)) := Lib.hid ⟨HS10.out.ext HME.out, HI10.out.ext HME.out⟩
            clear hm11 hm12 hb11 u0 u2 u3 v0 v2 v3
            go_wp2_with fail
            go_roundg (gk - 1)
            case measure => omega
            case rel => exact ⟨k + 1, P9, _, by omega, by go_num, HNX⟩
      · have hkm : k = m := by omega
        subst hkm
        have t0 := HW.out.1.c0
        have t1 := HW.out.1.c1
        have t2 := HW.out.1.c2
        have HBK : Hid (0 + 2 + k ≤ G5.blocks) := Lib.hid (by rw [HP5.out.blocks]; show _ ≤ nb; have := HFR2.out; omega)
        go_wp2_with fail
        refine (lsList (k := 0) HW.out.1 (HP5.out.size.trans rfl) (by rw [HP5.out.blocks]; show nb ≤ 256; omega) (textL na seed) na (textL_len na seed) (by rw [← HM.out]; exact HP5.out.here rfl) (by rw [← HM.out]; exact HBK.out) ha25 ha4 2 rfl).mono ?_
        rintro e w20 ⟨P20, F20, iv2, rfl, hS20, hi20, hN20⟩
        rw [← HM.out] at hi20
        have HS20 := Lib.hid hS20
        have HI20 := Lib.hid hi20
        have HJ20 := Lib.hid (slI (hN20.slP HW.out.2))
        clear hS20 hi20 hN20 t0 t1 t2
        go_wp2_with fail
        refine (SameInts_any _ _ _ _ HI20.out HJ20.out).mono ?_
        rintro e w21 ⟨rfl, hm21⟩
        rw [show decide ((idsK 0 k).map (fun q : Nat => (q : Int)) = (firstL k).map (fun q : Nat => (q : Int))) = true from decide_eq_true (by rw [idsK_first])]
        have HS21 := Lib.hid (HS20.out.ext hm21)
        clear hm21
        go_wp2_with fail
        refine (awake_any (HL.out.mods HS21.out.ext0)).mono ?_
        rintro e w22 ⟨rfl, hm22⟩
        have HM22 := Lib.hid (HS21.out.ext0.trans hm22)
        clear hm22
        go_wp2_with fail
        go_ret
        exact ⟨rfl, HM22.out⟩
  · obtain ⟨rfl, P5, F5, a, f, rfl, hS5, _, hE5⟩ := ht5.full (by rw [tx_size, ← HM.out]; have := HFR2.out; omega)
    have HS5 := Lib.hid hS5
    have HE5 := Lib.hid hE5
    have t0 := hS5.c0
    have t1 := hS5.c1
    have t2 := hS5.c2
    clear ht5 hS5 hE5
    go_wp2_with fail
    refine (tellsC HS5.out.env HFU.out HE5.out 3 (by omega) rfl).mono ?_
    rintro e w6 ⟨rfl, rfl⟩
    go_wp2_with fail
    refine (pgFree HS5.out.pg).mono ?_
    rintro e w7 ⟨rfl, rfl⟩
    rw [spK_count nb 0 (by omega), show nb - 2 - 0 = fr by have := HFR2.out; omega]
    go_wp2_with fail
    refine (awake_any (HL.out.mods HS5.out.ext0)).mono ?_
    rintro e w8 ⟨rfl, hm8⟩
    have HM8 := Lib.hid (HS5.out.ext0.trans hm8)
    clear hm8
    go_wp2_with fail
    go_ret
    exact ⟨rfl, HM8.out⟩
end Go.Proofs.YtidjkcfjocppmaaDoor
