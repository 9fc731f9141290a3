/- chain.Write. -/
import Derived.Test.YtidjkcfjocppmaaDoorKChain3
import Derived.IntWalk
namespace Go.Proofs.YtidjkcfjocppmaaDoor
open Go.RowKit
attribute [local go_sem ↓] Go.wp_at_zero Go.wp_at_succ

def pieceB (v : List UInt8) (n i : Nat) : List UInt8 := (v.drop (i * n)).take n
/-- the page of a piece. -/
def chPage (gen : Nat) (v : List UInt8) (n : Nat) (ids : List Nat) (i : Nat) : PageA := ⟨4, ((ids.getD i 0 : Nat) : Int), gen, leB 4 (ids.getD (i + 1) 0) ++ pieceB v n i⟩
def chPuts (gen : Nat) (v : List UInt8) (n : Nat) (ids : List Nat) : Nat → GA → GA
  | 0, G => G
  | k + 1, G => (chPuts gen v n ids k G).put (chPage gen v n ids k)
theorem chPuts_same (gen : Nat) (v : List UInt8) (n : Nat) (ids : List Nat) : ∀ (k : Nat) (G : GA), (chPuts gen v n ids k G).blocks = G.blocks ∧ (chPuts gen v n ids k G).size = G.size ∧ (chPuts gen v n ids k G).cost = G.cost + k
  | 0, G => ⟨rfl, rfl, rfl⟩
  | k + 1, G => by
    obtain ⟨h1, h2, h3⟩ := chPuts_same gen v n ids k G
    exact ⟨h1, h2, by show (chPuts gen v n ids k G).cost + 1 = _; omega⟩
def WriteDone (F P : Nat → Prop) (ad : Nat → Addr) (w : World) (c s : Nat) (G : GA) (l : List Nat) (gen : Nat) (v : ByteArray) (e : Ending) (w' : World) : Prop :=
  ∃ (P' F' : Nat → Prop) (G' : GA) (l' : List Nat), PgR F' w' P' c s G' l' ∧ Nxt P P' F F' ad w w' ∧
    ((∃ ids, takeA (needN v.size G.size).toNat l = some (ids, l') ∧ Taken l ids l' ∧ ids.length = (needN v.size G.size).toNat ∧ G' = chPuts gen v.data.toList (G.size - 28) ids ids.length G ∧ e = .returned (.tuple #[.int .i64 ((ids.getD 0 0 : Nat) : Int), .nilIface])) ∨
     (∃ (a : List Nat) (f : Nat), takeA (needN v.size G.size).toNat l = none ∧ l' = l ∧ G' = giveG G a ∧ (∀ id ∈ a, l[id]? = some 0) ∧ e = .returned (.tuple #[.int .i64 0, faultV f]) ∧ ErrC F' ad w' (faultV f) [-1, -1] 3))
section
variable {P P' F F' : Nat → Prop} {ad : Nat → Addr} {w w' : World} {c s : Nat} {G G' : GA} {l l' : List Nat}
theorem need_bounds (n size : Nat) (h1 : 25 ≤ n) (h2 : n ≤ 4096) (h3 : 256 ≤ size) (h4 : size ≤ 1024) : ∃ m : Nat, needN n size = (m : Int) ∧ 1 ≤ m ∧ m ≤ 18 ∧ (m - 1) * (size - 28) < n ∧ n ≤ m * (size - 28) := by
  refine ⟨(n - 1) / (size - 28) + 1, ?_, Nat.le_add_left 1 _, ?_, ?_, ?_⟩
  · unfold needN
    rw [if_neg (by omega)]
    have e1 : ((n : Int) - 1) = ((n - 1 : Nat) : Int) := by omega
    have e2 : ((size : Int) - 28) = ((size - 28 : Nat) : Int) := by omega
    rw [e1, e2]; simp
  · have : (n - 1) / (size - 28) ≤ (n - 1) / 228 := Nat.div_le_div_left (by omega) (by omega)
    omega
  · rw [Nat.add_sub_cancel]
    have := Nat.div_mul_le_self (n - 1) (size - 28)
    omega
  · have := Nat.lt_div_mul_add (a := n - 1) (b := size - 28) (by omega)
    rw [Nat.add_mul, Nat.one_mul]; omega
theorem piece_ext (v : ByteArray) (i j : Nat) : (v.extract i j).data.toList = (v.data.toList.drop i).take (j - i) := by
  rw [ByteArray.data_extract, Array.toList_extract, List.extract_eq_take_drop]
theorem TakeAllDone.form {n : Nat} {e : Ending} (h : TakeAllDone F P ad w c s G l n e w') : ∃ iv ev, e = .returned (.tuple #[iv, ev]) := by
  obtain ⟨_, _, _, _, _, _, ⟨_, iv, _, _, _, _, h, _⟩ | ⟨_, f, _, _, _, _, h, _⟩⟩ := h
  · exact ⟨_, _, h⟩
  · exact ⟨_, _, h⟩
theorem TakeAllDone.cellK {n : Nat} {e : Ending} (h : TakeAllDone F P ad w c s G l n e w') {b o : Nat} {x : Value} (hc : w.cell? ⟨b, o, none⟩ = some x) (hb : ¬ P b) : w'.cell? ⟨b, o, none⟩ = some x := by
  obtain ⟨_, _, _, _, _, hn, _⟩ := h
  exact hn.cellK hc hb
set_option maxRecDepth 100000 in
set_option maxHeartbeats 4000000 in
theorem chWrite_any (hL : Env F ad w) (hP : ∀ k, P k → F k) (h : PgR F w P c s G l) (gen : Nat) (hg : gen < 18446744073709551616) (v : ByteArray) (h25 : 25 ≤ v.size) (h4096 : v.size ≤ 4096) (hok : spOk l) (hlb : l.length = G.blocks) (hco : G.cost + 100 ≤ 1000000) :
    Calls Tryd.prog 14 #[pgV c s gen, .string v] w (WriteDone F P ad w c s G l gen v) := by
  obtain ⟨_, b256, s256, s1024, _, _⟩ := h.lim
  obtain ⟨m, hm, hm1, hm18, hlo, hhi⟩ := need_bounds v.size G.size h25 h4096 s256 s1024
  have hck : chCheck (v.size : Int) = none := by unfold chCheck; rw [if_neg (by omega)]
  obtain ⟨nn, hnn⟩ : ∃ nn, nn = G.size - 28 := ⟨_, rfl⟩
  have hnI : (G.size : Int) - 28 = (nn : Int) := by omega
  unfold pgV
  have m0 : Ext w (w.alloc (.cells #[.pointer (some ⟨c, 0, none⟩), .pointer (some ⟨s, 0, none⟩), .int .u64 (gen : Int)] 29)) := (Mods.refl _ w).alloc _
  have HN0 : Hid (¬ P w.heap.size) := Lib.hid (fun f => by have := h.bd _ f; omega)
  have HB0 := Lib.hid (Blk.new w #[.pointer (some ⟨c, 0, none⟩), .pointer (some ⟨s, 0, none⟩), .int .u64 (gen : Int)] 29)
  have HX0 := Lib.hid (Nxt.ext hL hP m0)
  have HG0 := Lib.hid (h.at m0)
  have HOK := Lib.hid hok
  have HLB := Lib.hid hlb
  have HM := Lib.hid hm
  have HNN := Lib.hid hnn
  have HNI := Lib.hid hnI
  have HGN := Lib.hid hg
  have HLO := Lib.hid hlo
  have HHI := Lib.hid hhi
  have hsz4 : (v.size : Int) ≤ 4096 := by omega
  clear hL hP h m0 hok hlb hm hnn hnI hg hlo hhi
  go_enter Tryd.func14, Tryd.ntmps14
  go_wp2_with fail
  refine (chCheck_any HX0.out.env _ gen (v.size : Int)).mono ?_
  rintro e w1 ⟨ev, rfl, hE, hm1'⟩
  rw [hck] at hE
  cases hE
  have HX1 := Lib.hid (HX0.out.trans (Nxt.ext HX0.out.env HX0.out.sub hm1'))
  have HG1 := Lib.hid (HG0.out.at hm1')
  have HB1 := Lib.hid (HB0.out.ext hm1')
  have r0 := HB1.out.cell (o := 0) (v := .pointer (some ⟨c, 0, none⟩)) rfl
  have r1 := HB1.out.cell (o := 1) (v := .pointer (some ⟨s, 0, none⟩)) rfl
  have r2 := HB1.out.cell (o := 2) (v := .int .u64 (gen : Int)) rfl
  clear hm1' hck
  go_wp2_with fail
  refine (chSize_any HG1.out gen).mono ?_
  rintro e w2 ⟨rfl, hm2⟩
  have HX2 := Lib.hid (HX1.out.trans (Nxt.ext HX1.out.env HX1.out.sub hm2))
  have HG2 := Lib.hid (HG1.out.at hm2)
  have HB2 := Lib.hid (HB1.out.ext hm2)
  have t0 := HB2.out.cell (o := 0) (v := .pointer (some ⟨c, 0, none⟩)) rfl
  have t1 := HB2.out.cell (o := 1) (v := .pointer (some ⟨s, 0, none⟩)) rfl
  have t2 := HB2.out.cell (o := 2) (v := .int .u64 (gen : Int)) rfl
  clear hm2 r0 r1 r2
  go_wp2_with fail
  refine (piece_any (G.size : Int) _ (by omega) (by omega)).mono ?_
  rintro e w2' ⟨rfl, rfl⟩
  rw [HNI.out]
  have HG2d := Lib.hid (HG2.out.at (Mods.refl _ w2).drew)
  have HX2d := Lib.hid (HX2.out.trans (Nxt.ext HX2.out.env HX2.out.sub (Mods.refl _ w2).drew))
  have HBN : Hid (¬ P w.heap.size) := Lib.hid HN0.out
  go_wp2_with fail
  go_region_held3 (fun w' => w'.cell? ⟨w.heap.size, 0, none⟩ = some (.pointer (some ⟨c, 0, none⟩)) ∧ w'.cell? ⟨w.heap.size, 1, none⟩ = some (.pointer (some ⟨s, 0, none⟩)) ∧ w'.cell? ⟨w.heap.size, 2, none⟩ = some (.int .u64 (gen : Int)))
    (first | (with_reducible exact ⟨x0, x1, x2⟩) | (with_reducible exact ⟨z0, z1, z2⟩) | go_keep)
    (first
      | (go_at_call 38; refine (chSize_any HG2d.out gen).mono ?_; rintro e w3 ⟨rfl, hm3⟩; have x0 := cellE hm3 t0; have x1 := cellE hm3 t1; have x2 := cellE hm3 t2)
      | (go_at_call 10; refine (need_any (v.size : Int) (G.size : Int) _ (by omega) (by omega)).mono ?_; rintro e w3' ⟨rfl, rfl⟩; rw [HM.out])
      | (go_at_call 39; refine (takeAll_any (HX2d.out.env.mods hm3.ext) HX2d.out.sub (HG2d.out.at hm3) gen m (by omega) HOK.out).mono ?_; rintro e w4 ht4; obtain ⟨iv, ev, rfl⟩ := ht4.form; have z0 := ht4.cellK x0 HBN.out; have z1 := ht4.cellK x1 HBN.out; have z2 := ht4.cellK x2 HBN.out))
  obtain ⟨P4, F4, G4, l4, hG4, hN4, hres⟩ := ht4
  have HX4 := Lib.hid ((HX2d.out.trans (Nxt.ext HX2d.out.env HX2d.out.sub hm3)).trans hN4)
  have HG4 := Lib.hid hG4
  have HB4 := Lib.hid (hN4.blk ((HB2.out.drew).ext hm3) HBN.out)
  have HP4 : Hid (¬ P4 w.heap.size) := Lib.hid (hN4.not ((HB2.out.drew).ext hm3).lt HBN.out)
  clear hG4 hN4 z0 z1 z2 x0 x1 x2 hm3 t0 t1 t2
  rcases hres with ⟨ids, iv', k1, k2, k3, k4, k5, k6⟩ | ⟨a, f, k1, k2, k3, k4, k5, k6⟩
  · simp only [Ending.returned.injEq, Value.tuple.injEq, Array.mk.injEq, List.cons.injEq, and_true] at k5
    obtain ⟨e1, e2⟩ := k5
    subst e1 e2 k4
    obtain ⟨ia, icap, rfl, i1, i2, i3, i4⟩ := _root_.id k6
    have K1 := Lib.hid k1
    have K2 := Lib.hid k2
    have K3 := Lib.hid k3
    have K6 := Lib.hid k6
    have I4 := Lib.hid i4
    rw [k3] at i1 i3 ⊢
    unfold maxLen at i2
    clear k1 k2 k3 k6 i4
    go_wp2_with fail
    go_loopg [40] m (fun q iv wr => ∃ (k : Nat) (P5 F5 : Nat → Prop), k + q = m ∧ iv = .int .i64 k ∧ Hid (PgR F5 wr P5 c s (chPuts gen v.data.toList nn ids k G4) l4 ∧ Nxt P P5 F F5 ad w wr ∧ (Blk wr w.heap.size #[.pointer (some ⟨c, 0, none⟩), .pointer (some ⟨s, 0, none⟩), .int .u64 (gen : Int)] 29 ∧ ¬ P5 w.heap.size) ∧ Sl P5 wr 1 encN (.slice ia m icap) ids))
    case atStart => exact ⟨0, P4, F4, by omega, rfl, Lib.hid ⟨HG4.out, HX4.out, ⟨HB4.out, HP4.out⟩, by have := K6.out; rw [K3.out] at this; exact this⟩⟩
    case round =>
      obtain ⟨k, P5, F5, hk, rfl, HW⟩ := hrel
      by_cases hlt : k < m
      · obtain ⟨hW1, hW2, ⟨hW3, hW4⟩, hW5⟩ := HW.out
        obtain ⟨ia', icap', eia, _, _, _, hcs⟩ := hW5
        simp only [Value.slice.injEq] at eia
        obtain ⟨eia1, eia3, eia2⟩ := eia
        clear eia3
        subst eia1 eia2
        rcases hcs with hcs | ⟨b, off, rfl, hbl, hbP, hcs⟩
        · have := K3.out; rw [hcs] at this; simp at this; omega
        · have hkl : k < ids.length := by rw [K3.out]; exact hlt
          have c0 := hcs k ids[k] (List.getElem?_eq_getElem hkl) 0 _ rfl
          simp only [Nat.mul_one, Nat.add_zero] at c0
          have r0 := hW3.cell (o := 0) (v := .pointer (some ⟨c, 0, none⟩)) rfl
          have r1 := hW3.cell (o := 1) (v := .pointer (some ⟨s, 0, none⟩)) rfl
          have r2 := hW3.cell (o := 2) (v := .int .u64 (gen : Int)) rfl
          obtain ⟨p, hp⟩ : ∃ p, p = k * nn := ⟨_, rfl⟩
          obtain ⟨q, hq⟩ : ∃ q, q = (k + 1) * nn := ⟨_, rfl⟩
          have hpq : q = p + nn := by rw [hp, hq, Nat.add_mul, Nat.one_mul]
          have hpv : p < v.size := by
            have h1 : k * nn ≤ (m - 1) * nn := Nat.mul_le_mul_right _ (by omega)
            have h2 := HLO.out
            rw [← HNN.out] at h2; omega
          have hnn2 : 228 ≤ nn ∧ nn ≤ 996 := by have := HNN.out; omega
          have w1 : (k : Int) * (nn : Int) = (p : Int) := by rw [hp]; simp
          have h1 : (0 : Int) ≤ (k : Int) := by omega
          have h2 : (k : Int) < (m : Int) := by omega
          have hid : ids[k] < G4.blocks := by
            have h1 := K2.out.fresh ids[k] (List.getElem_mem _)
            have h2 := (List.getElem?_eq_some_iff.1 h1).1
            rw [K2.out.len, HLB.out] at h2; exact h2
          have HC0 := Lib.hid (show ids.getD k 0 = ids[k] by simp [List.getD, hkl])
          obtain ⟨id, hide⟩ : ∃ id, id = ids[k] := ⟨_, rfl⟩
          rw [← hide] at c0 hid HC0
          have HP := Lib.hid hp
          have HQ := Lib.hid hq
          have u1 : IntKind.i64.wrap (p : Int) = (p : Int) := IntWalk.i64_in _ (by omega)
          have u2 : IntKind.i64.wrap ((k : Int) + 1) = (k : Int) + 1 := IntWalk.i64_in _ (by omega)
          have u3 : IntKind.i64.wrap (((k : Int) + 1) * (nn : Int)) = (q : Int) := by
            have w2 : ((k : Int) + 1) * (nn : Int) = (q : Int) := by rw [hq]; simp
            rw [w2]; exact IntWalk.i64_in _ (by omega)
          clear hp hq hW1 hW2 hW3 hW4 hide
          by_cases hlast : k + 1 < m
          · have hqv : q < v.size := by
              have h1 : (k + 1) * nn ≤ (m - 1) * nn := Nat.mul_le_mul_right _ (by omega)
              have h2 := HLO.out
              rw [← HNN.out] at h2
              have := HQ.out; omega
            have hqvI : (q : Int) < (v.size : Int) := by omega
            have hkl1 : k + 1 < ids.length := by rw [K3.out]; exact hlast
            have c1 := hcs (k + 1) ids[k + 1] (List.getElem?_eq_getElem hkl1) 0 _ rfl
            simp only [Nat.mul_one, Nat.add_zero] at c1
            have hnx : ids[k + 1] < 4294967296 := by
              have h1 := K2.out.fresh ids[k + 1] (List.getElem_mem _)
              have h2 := (List.getElem?_eq_some_iff.1 h1).1
              rw [K2.out.len] at h2; omega
            have HC1 := Lib.hid (show ids.getD (k + 1) 0 = ids[k + 1] by simp [List.getD, hkl1])
            obtain ⟨nx, hnxe⟩ : ∃ nx, nx = ids[k + 1] := ⟨_, rfl⟩
            rw [← hnxe] at c1 hnx HC1
            have HPC : Hid ((v.extract p q).data.toList = pieceB v.data.toList nn k) := Lib.hid (by
              rw [HP.out, HQ.out, piece_ext]; unfold pieceB; rw [show (k + 1) * nn - k * nn = nn by rw [Nat.add_mul, Nat.one_mul]; omega])
            have v1 : (0 : Int) ≤ (p : Int) := by omega
            have v2 : (p : Int) ≤ (q : Int) := by omega
            have v3 : (q : Int) ≤ (v.size : Int) := by omega
            have v4 : min (q : Int) (v.size : Int) = (q : Int) := by omega
            have HPQ := Lib.hid hpq
            clear hnxe hcs hpq
            go_wp2_with fail
            go_region_held3 (fun w' => w'.cell? ⟨w.heap.size, 0, none⟩ = some (.pointer (some ⟨c, 0, none⟩)) ∧ w'.cell? ⟨w.heap.size, 1, none⟩ = some (.pointer (some ⟨s, 0, none⟩)) ∧ w'.cell? ⟨w.heap.size, 2, none⟩ = some (.int .u64 (gen : Int)))
              (first | (with_reducible exact ⟨z0, z1, z2⟩) | go_keep)
              ((go_at_call 41; refine (chPut_ok (HW.out.2.1.env.mods (Mods.refl _ _).drew) HW.out.2.1.sub (HW.out.1.at (Mods.refl _ _).drew) gen HGN.out id (by rw [(chPuts_same gen v.data.toList nn ids k G4).1]; exact hid) nx hnx (v.extract p q) (by rw [(chPuts_same gen v.data.toList nn ids k G4).2.1, ByteArray.size_extract]; have := HNN.out; have := HPQ.out; omega) (by rw [(chPuts_same gen v.data.toList nn ids k G4).2.2]; omega)).mono ?_; rintro e w6 ⟨P6, F6, hG6, hN6, rfl⟩; have z0 := hN6.cellK r0 HW.out.2.2.1.2; have z1 := hN6.cellK r1 HW.out.2.2.1.2; have z2 := hN6.cellK r2 HW.out.2.2.1.2))
            have HNX : Hid (PgR F6 w6 P6 c s (chPuts gen v.data.toList nn ids (k + 1) G4) l4 ∧ Nxt P P6 F F6 ad w w6 ∧ (Blk w6 w.heap.size #[.pointer (some ⟨c, 0, none⟩), .pointer (some ⟨s, 0, none⟩), .int .u64 (gen : Int)] 29 ∧ ¬ P6 w.heap.size) ∧ Sl P6 w6 1 encN (.slice (some ⟨b, off, none⟩) m icap) ids) := Lib.hid (by
              have e : chPage gen v.data.toList nn ids k = ⟨4, (id : Int), gen, leB 4 nx ++ (v.extract p q).data.toList⟩ := by unfold chPage; rw [HC0.out, HC1.out, HPC.out]
              refine ⟨by rw [chPuts, e]; exact hG6, (HW.out.2.1.trans (Nxt.ext HW.out.2.1.env HW.out.2.1.sub (Mods.refl _ wr).drew)).trans hN6, ⟨hN6.blk (w := wr.drew) HW.out.2.2.1.1 HW.out.2.2.1.2, hN6.not (w := wr.drew) HW.out.2.2.1.1.lt HW.out.2.2.1.2⟩, hN6.slP (HW.out.2.2.2.ext (Mods.refl _ wr).drew)⟩)
            clear hG6 hN6 z0 z1 z2
            go_wp2_with fail
            go_roundg (gk - 1)
            case measure => omega
            case rel => exact ⟨k + 1, P6, F6, by omega, by go_num, HNX⟩
          · have hqv : (v.size : Int) ≤ (q : Int) := by
              have h1 := HHI.out
              rw [← HNN.out] at h1
              have h2 := HQ.out
              rw [show k + 1 = m by omega] at h2; omega
            have HC1 := Lib.hid (show ids.getD (k + 1) 0 = 0 by simp [List.getD, List.getElem?_eq_none (show ids.length ≤ k + 1 by rw [K3.out]; omega)])
            have HPC : Hid ((v.extract p v.size).data.toList = pieceB v.data.toList nn k) := Lib.hid (by
              rw [piece_ext, HP.out]; unfold pieceB
              have hl : v.data.toList.length = v.size := size_toList v
              rw [List.take_of_length_le (by rw [List.length_drop, hl]; exact Nat.le_refl _), List.take_of_length_le (by rw [List.length_drop, hl]; have := HP.out; omega)])
            have v1 : (0 : Int) ≤ (p : Int) := by omega
            have v2 : (p : Int) ≤ (v.size : Int) := by omega
            have v4 : min (q : Int) (v.size : Int) = (v.size : Int) := by omega
            have hlast2 : decide (k + 1 < m) = false := by simpa using hlast
            have hlast3 : (m : Int) ≤ (k : Int) + 1 := by omega
            have HPQ := Lib.hid hpq
            clear hcs hpq hlast
            go_wp2_with fail
            go_region_held3 (fun w' => w'.cell? ⟨w.heap.size, 0, none⟩ = some (.pointer (some ⟨c, 0, none⟩)) ∧ w'.cell? ⟨w.heap.size, 1, none⟩ = some (.pointer (some ⟨s, 0, none⟩)) ∧ w'.cell? ⟨w.heap.size, 2, none⟩ = some (.int .u64 (gen : Int)))
              (first | (with_reducible exact ⟨z0, z1, z2⟩) | go_keep)
              ((go_at_call 41; refine (chPut_ok (HW.out.2.1.env.mods (Mods.refl _ _).drew) HW.out.2.1.sub (HW.out.1.at (Mods.refl _ _).drew) gen HGN.out id (by rw [(chPuts_same gen v.data.toList nn ids k G4).1]; exact hid) 0 (by omega) (v.extract p v.size) (by rw [(chPuts_same gen v.data.toList nn ids k G4).2.1, ByteArray.size_extract]; have := HNN.out; have := HPQ.out; omega) (by rw [(chPuts_same gen v.data.toList nn ids k G4).2.2]; omega)).mono ?_; rintro e w6 ⟨P6, F6, hG6, hN6, rfl⟩; have z0 := hN6.cellK r0 HW.out.2.2.1.2; have z1 := hN6.cellK r1 HW.out.2.2.1.2; have z2 := hN6.cellK r2 HW.out.2.2.1.2))
            have HNX : Hid (PgR F6 w6 P6 c s (chPuts gen v.data.toList nn ids (k + 1) G4) l4 ∧ Nxt P P6 F F6 ad w w6 ∧ (Blk w6 w.heap.size #[.pointer (some ⟨c, 0, none⟩), .pointer (some ⟨s, 0, none⟩), .int .u64 (gen : Int)] 29 ∧ ¬ P6 w.heap.size) ∧ Sl P6 w6 1 encN (.slice (some ⟨b, off, none⟩) m icap) ids) := Lib.hid (by
              have e : chPage gen v.data.toList nn ids k = ⟨4, (id : Int), gen, leB 4 0 ++ (v.extract p v.size).data.toList⟩ := by unfold chPage; rw [HC0.out, HC1.out, HPC.out]
              refine ⟨by rw [chPuts, e]; exact hG6, (HW.out.2.1.trans (Nxt.ext HW.out.2.1.env HW.out.2.1.sub (Mods.refl _ wr).drew)).trans hN6, ⟨hN6.blk (w := wr.drew) HW.out.2.2.1.1 HW.out.2.2.1.2, hN6.not (w := wr.drew) HW.out.2.2.1.1.lt HW.out.2.2.1.2⟩, hN6.slP (HW.out.2.2.2.ext (Mods.refl _ wr).drew)⟩)
            clear hG6 hN6 z0 z1 z2
            go_wp2_with fail
            go_roundg (gk - 1)
            case measure => omega
            case rel => exact ⟨k + 1, P6, F6, by omega, by go_num, HNX⟩
      · obtain rfl : k = m := by omega
        obtain ⟨hW1, hW2, ⟨hW3, hW4⟩, hW5⟩ := HW.out
        obtain ⟨ia', icap', eia, _, _, _, hcs⟩ := hW5
        simp only [Value.slice.injEq] at eia
        obtain ⟨eia1, eia3, eia2⟩ := eia
        clear eia3
        subst eia1 eia2
        rcases hcs with hcs | ⟨b, off, rfl, hbl, hbP, hcs⟩
        · have := K3.out; rw [hcs] at this; simp at this; omega
        · have hkl : 0 < ids.length := by rw [K3.out]; omega
          have c0 := hcs 0 ids[0] (List.getElem?_eq_getElem hkl) 0 _ rfl
          simp only [Nat.mul_one, Nat.add_zero] at c0
          have HC0 := Lib.hid (show ids.getD 0 0 = ids[0] by simp [List.getD, hkl])
          obtain ⟨id, hide⟩ : ∃ id, id = ids[0] := ⟨_, rfl⟩
          rw [← hide] at c0 HC0
          have h2 : (0 : Int) < (k : Int) := by omega
          have h3 : 0 < k := by omega
          clear hcs hide hW1 hW2 hW3 hW4 hkl
          go_wp2_with fail
          go_ret2
          refine ⟨P5, F5, _, l4, HW.out.1, HW.out.2.1, .inl ⟨ids, ?_, K2.out, ?_, ?_, ?_⟩⟩
          · rw [HM.out]; exact K1.out
          · rw [HM.out]; exact K3.out
          · rw [K3.out, HNN.out]
          · rw [HC0.out]; rfl
  · simp only [Ending.returned.injEq, Value.tuple.injEq, Array.mk.injEq, List.cons.injEq, and_true] at k5
    obtain ⟨e1, e2⟩ := k5
    subst e1 e2 k2 k3
    have K1 := Lib.hid k1
    have K4 := Lib.hid k4
    have K6 := Lib.hid k6
    clear k1 k4 k6
    go_wp2_with fail
    refine (wrap_any HX4.out.env _ _ _ 3 K6.out).mono ?_
    rintro e w5 ⟨f5, rfl, hE5, hm5⟩
    have HE5 := Lib.hid hE5
    have HM5 := Lib.hid hm5
    clear hE5 hm5
    go_wp2_with fail
    go_ret2
    refine ⟨P4, F4, _, _, HG4.out.at HM5.out, HX4.out.trans (Nxt.ext HX4.out.env HX4.out.sub HM5.out), .inr ⟨a, f5, ?_, rfl, rfl, K4.out, rfl, HE5.out⟩⟩
    rw [HM.out]; exact K1.out
end
end Go.Proofs.YtidjkcfjocppmaaDoor
