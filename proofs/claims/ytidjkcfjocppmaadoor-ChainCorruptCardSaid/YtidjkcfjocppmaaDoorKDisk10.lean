/- (*block.Disk).Corrupt. -/
import Derived.Test.YtidjkcfjocppmaaDoorKDisk8
import Derived.Laws.BitsAllLaws
namespace Go.Proofs.YtidjkcfjocppmaaDoor
open Go.RowKit
section
variable {P F : Nat → Prop} {ad : Nat → Addr} {w w' : World} {d bl : Nat} {gs ws : List Nat} {wv kv : Value} {D : DiskA}
theorem xor_val (x mask k r : Nat) (hx : x < 256) (hm : mask < 4294967296) (hr : r < 8) : bits .xor .u8 (x : Int) (bits .and .u32 ((mask : Int) / 2 ^ k) 1 % 256 * 2 ^ r % 256) = ((x ^^^ (mask / 2 ^ k % 2 * 2 ^ r) : Nat) : Int) := by
  have e1 : ((mask : Int) / 2 ^ k) = ((mask / 2 ^ k : Nat) : Int) := by simp
  have hmk : mask / 2 ^ k < 4294967296 := Nat.lt_of_le_of_lt (Nat.div_le_self _ _) hm
  have e2 : bits .and .u32 ((mask / 2 ^ k : Nat) : Int) 1 = ((mask / 2 ^ k % 2 : Nat) : Int) := by
    have := u32_and_nat (mask / 2 ^ k) 1 hmk (by decide)
    rw [nat_mask1] at this; exact this
  have hb : mask / 2 ^ k % 2 < 2 := Nat.mod_lt _ (by omega)
  rw [e1, e2]
  generalize mask / 2 ^ k % 2 = b at hb
  have hp := pow_lt8 b r hb hr
  have e3 : ((b : Int) % 256 * 2 ^ r % 256) = ((b * 2 ^ r : Nat) : Int) := by
    rw [Int.emod_eq_of_lt (by omega) (by omega : (b : Int) < 256)]
    have e : ((b * 2 ^ r : Nat) : Int) = (b : Int) * 2 ^ r := by simp
    rw [← e]; omega
  rw [e3]
  exact u8_xor_nat x (b * 2 ^ r) hx hp
theorem nodup_inj : ∀ (l : List Nat) (i j x : Nat), l.Nodup → l[i]? = some x → l[j]? = some x → i = j
  | [], i, _, _, _, h, _ => by simp at h
  | a :: l, 0, 0, _, _, _, _ => rfl
  | a :: l, 0, j + 1, x, hn, h1, h2 => by
    simp at h1 h2; subst h1
    exact absurd (List.mem_of_getElem? h2) (List.nodup_cons.1 hn).1
  | a :: l, i + 1, 0, x, hn, h1, h2 => by
    simp at h1 h2; subst h2
    exact absurd (List.mem_of_getElem? h1) (List.nodup_cons.1 hn).1
  | a :: l, i + 1, j + 1, x, hn, h1, h2 => by rw [nodup_inj l i j x (List.nodup_cons.1 hn).2 (by simpa using h1) (by simpa using h2)]
/-- one lasting row is turned in place. -/
theorem DkR.rowSet {w1 wr : World} {i g : Nat} {l : List UInt8} (h : DkR w1 d bl gs ws wv kv D) (hg : gs[i]? = some g) (m : Mods (fun x => x = g) w1 wr) (hb : Blk wr g (bytesC l) 5) (hl : l.length = D.size) (hd : g ≠ d) (hbl : g ≠ bl) :
    DkR wr d bl gs ws wv kv { D with lasting := D.lasting.set i l } := by
  have hn := h.nodup
  have hn2 := (List.nodup_cons.1 (List.nodup_cons.1 hn).2).2
  rw [List.nodup_append] at hn2
  obtain ⟨n1, n2, n3⟩ := hn2
  have hgm : g ∈ gs := List.mem_of_getElem? hg
  obtain ⟨cap, a1, a2, a3, rest, a4, a5⟩ := h.own
  have hall : ∀ x, x ∈ d :: bl :: (gs ++ ws) → g ∈ d :: bl :: (gs ++ ws) := fun _ _ => List.mem_cons_of_mem _ (List.mem_cons_of_mem _ (List.mem_append_left _ hgm))
  refine ⟨⟨cap, a1, a2, a3.mods m (Ne.symm hd), rest, a4.mods m (Ne.symm hbl), a5⟩, h.lenB, by simpa using h.lenL, h.lenW, h.keep.mods m (fun x hx e => h.keep.2 x hx (e ▸ hall d List.mem_cons_self)), h.kw, h.few2, h.wait.mods m (fun x hx e => h.wait.2 x hx (e ▸ hall d List.mem_cons_self)),
    fun j g' b hg' hb' => ?_, fun j g' p hg' hp => ⟨(h.wrow j g' p hg' hp).1, (h.wrow j g' p hg' hp).2.1, (h.wrow j g' p hg' hp).2.2.mods m (fun e => n3 g hgm g' (List.mem_of_getElem? hg') e.symm)⟩, hn, h.b8, h.b256, h.s256, h.s1024, h.few⟩
  rcases set_cases hb' with ⟨rfl, rfl⟩ | ⟨hne, hb'⟩
  · rw [hg] at hg'; injection hg' with hg'; subst hg'
    exact ⟨hl, hb⟩
  · refine ⟨(h.row j g' b hg' hb').1, (h.row j g' b hg' hb').2.mods m (fun e => hne ?_)⟩
    subst e
    exact (nodup_inj gs i j _ n1 hg hg').symm
set_option maxRecDepth 100000 in
set_option maxHeartbeats 1000000 in
theorem dkCorrupt_ok (hL : Env F ad w) (hP : ∀ k, P k → F k) (h : DkR w d bl gs ws wv kv D) (hD : ∀ k, P k ↔ dkF d bl gs ws wv kv k) (i bit mask : Nat) (hi : i < D.blocks) (hb : bit < 8 * D.size) (hm : mask < 4294967296) :
    Calls Tryd.prog 30 #[.pointer (some ⟨d, 0, none⟩), .int .i64 (i : Int), .int .i64 (bit : Int), .int .u32 (mask : Int)] w (DkDone F P ad w d { D with lasting := D.lasting.set i (corruptB (D.lasting.getD i []) bit mask) }) := by
  have hck : D.check i = none := by unfold DiskA.check; rw [if_neg (by omega)]
  have HL := Lib.hid hL
  have HD := Lib.hid h
  have HP := Lib.hid hP
  have HDD := Lib.hid hD
  have hsz : D.size ≤ 1024 := h.s1024
  have hbl2 := h.b256
  clear h hL hP hD
  go_enter Tryd.func30, Tryd.ntmps30
  go_wp2_with fail
  refine (dkCheck_any HL.out HD.out _ i).mono ?_
  rintro e w1 ⟨ev, rfl, hE, hm1⟩
  rw [hck] at hE
  cases hE
  have HD1 := Lib.hid (HD.out.at hm1)
  have HM1 := Lib.hid hm1
  have c1 := HD1.out.sizeC
  obtain ⟨g, L, cap, k1, k2, k3, k4, k5, k6, k7, k8⟩ := HD1.out.lastC i hi
  have K1 := Lib.hid k1
  have K2 := Lib.hid k2
  have K6 := Lib.hid k6
  have K7 := Lib.hid k7
  have K8 := Lib.hid k8
  have HGN : Hid (g ≠ d ∧ g ≠ bl) := Lib.hid (by
    have hn := HD1.out.nodup
    have hg : g ∈ gs ++ ws := List.mem_append_left _ (List.mem_of_getElem? k1)
    exact ⟨fun e => (List.nodup_cons.1 hn).1 (e ▸ List.mem_cons_of_mem _ hg), fun e => (List.nodup_cons.1 (List.nodup_cons.1 hn).2).1 (e ▸ hg)⟩)
  have hi0 : (0 : Int) ≤ (i : Int) := by omega
  have hi1 : (i : Int) < (D.blocks : Int) := by omega
  have hz0 : ¬ (bit : Int) < 0 := by omega
  have hz1 : (bit : Int) < 8 * (D.size : Int) := by omega
  clear hck hm1 k1 k2 k7 k8
  go_wp2_with fail
  go_loopg [33] 32 (fun m v wr => ∃ (k : Nat) (l : List UInt8), k + m = 32 ∧ v = .int .i64 k ∧ Hid (Mods (fun x => x = g) w1 wr ∧ Blk wr g (bytesC l) 5 ∧ l.length = D.size ∧ corruptFrom mask bit m k l = corruptB L bit mask))
  case atStart => exact ⟨0, L, rfl, rfl, Lib.hid ⟨Mods.refl _ _, K8.out, K7.out, rfl⟩⟩
  case round =>
    obtain ⟨k, l, hk, rfl, HW⟩ := hrel
    obtain ⟨hm2, hbk, hll, hcf⟩ := HW.out
    have x1 := (hm2.cell (cell_lt c1) (Ne.symm HGN.out.1)).trans c1
    have x3 := (hm2.cell (cell_lt k3) (Ne.symm HGN.out.1)).trans k3
    have x6 := (hm2.cell (cell_lt K6.out) (Ne.symm HGN.out.2)).trans K6.out
    simp only [rowV] at x6
    have fz := hbk.frozen
    have HLL := Lib.hid hll
    clear hm2 hbk hll hcf
    by_cases hlt : k < 32
    · obtain ⟨m, rfl⟩ : ∃ m, gk = m + 1 := ⟨gk - 1, by omega⟩
      by_cases hin : bit + k < 8 * D.size
      · obtain ⟨q, hq⟩ : ∃ q, q = (bit + k) / 8 := ⟨_, rfl⟩
        obtain ⟨r, hr⟩ : ∃ r, r = (bit + k) % 8 := ⟨_, rfl⟩
        have hql : q < D.size := by omega
        have hr8 : r < 8 := by omega
        obtain ⟨x, hx⟩ : ∃ x, l[q]? = some x := ⟨_, List.getElem?_eq_getElem (by rw [HLL.out]; exact hql)⟩
        have hc : wr.cell? ⟨g, q, none⟩ = some (.int .u8 (x.toNat : Int)) := HW.out.2.1.cell (by rw [bytesC]; simp [hx])
        have t1 : ((bit : Int) + (k : Int)) / 8 = (q : Int) := by omega
        have t2 : ((bit : Int) + (k : Int)).tdiv 8 = (q : Int) := by rw [Int.tdiv_eq_ediv_of_nonneg (by omega)]; exact t1
        have t3 : ((bit : Int) + (k : Int)) % 8 = (r : Int) := by omega
        have t4 : ((bit : Int) + (k : Int)).tmod 8 = (r : Int) := by rw [Int.tmod_eq_emod_of_nonneg (by omega)]; exact t3
        have t5 : (bit : Int) + (k : Int) < 8 * (D.size : Int) := by omega
        have hx8 := x.toNat_lt
        have u0 : (0 : Int) ≤ (q : Int) := by omega
        have u1 : (q : Int) < (D.size : Int) := by omega
        have HX := Lib.hid hx
        have HQ := Lib.hid hq
        have HR := Lib.hid hr
        clear hx hq hr
        have hval : bits .xor .u8 (x.toNat : Int) (bits .and .u32 ((mask : Int) / 2 ^ k) 1 % 256 * 2 ^ r % 256) = ((x.toNat ^^^ (mask / 2 ^ k % 2 * 2 ^ r) : Nat) : Int) := xor_val x.toNat mask k r x.toNat_lt hm hr8
        have HVAL := Lib.hid hval
        have HNX : Hid (Mods (fun x => x = g) w1 (wr.setCell ⟨g, q, none⟩ (.int .u8 ((x.toNat ^^^ (mask / 2 ^ k % 2 * 2 ^ r) : Nat) : Int))) ∧ Blk (wr.setCell ⟨g, q, none⟩ (.int .u8 ((x.toNat ^^^ (mask / 2 ^ k % 2 * 2 ^ r) : Nat) : Int))) g (bytesC (turnB l (bit + k) (mask / 2 ^ k % 2))) 5 ∧ (turnB l (bit + k) (mask / 2 ^ k % 2)).length = D.size ∧ corruptFrom mask bit m (k + 1) (turnB l (bit + k) (mask / 2 ^ k % 2)) = corruptB L bit mask) := Lib.hid (by
          obtain ⟨j1, j2, j3, j4⟩ := HW.out
          refine ⟨j1.setCell (.inr rfl) _, ?_, by rw [turnB_length]; exact j3, ?_⟩
          · have e := j2.set q (.int .u8 ((x.toNat ^^^ (mask / 2 ^ k % 2 * 2 ^ r) : Nat) : Int))
            have e2 : (bytesC l).setIfInBounds q (.int .u8 ((x.toNat ^^^ (mask / 2 ^ k % 2 * 2 ^ r) : Nat) : Int)) = bytesC (turnB l (bit + k) (mask / 2 ^ k % 2)) := by
              unfold turnB bytesC
              rw [← HQ.out, ← HR.out, show l.getD q 0 = x by simp [List.getD, HX.out], List.map_set, List.setIfInBounds_toArray, UInt8.toNat_ofNat', Nat.mod_eq_of_lt (Nat.xor_lt_two_pow (n := 8) x.toNat_lt (pow_lt8 _ _ (Nat.mod_lt _ (by omega)) hr8))]
            rw [e2] at e; exact e
          · rw [← j4, corruptFrom, if_pos (by rw [j3]; exact hin)])
        clear hval
        go_wp2_with fail
        go_region
        rw [HVAL.out]
        go_wp2_with fail
        go_roundg m
        case measure => omega
        case rel => exact ⟨k + 1, turnB l (bit + k) (mask / 2 ^ k % 2), by omega, by go_num, Lib.hid ⟨HNX.out.1.drew, HNX.out.2⟩⟩
      · have t5 : ¬ (bit : Int) + (k : Int) < 8 * (D.size : Int) := by omega
        have HNX : Hid (corruptFrom mask bit m (k + 1) l = corruptB L bit mask) := Lib.hid (by
          obtain ⟨j1, j2, j3, j4⟩ := HW.out
          rw [← j4, corruptFrom, if_neg (by rw [j3]; exact hin)])
        go_wp2_with fail
        go_roundg m
        case measure => omega
        case rel => exact ⟨k + 1, l, by omega, by go_num, Lib.hid ⟨HW.out.1, HW.out.2.1, HW.out.2.2.1, HNX.out⟩⟩
    · obtain rfl : gk = 0 := by omega
      go_wp2_with fail
      go_ret
      obtain ⟨j1, j2, j3, j4⟩ := HW.out
      have e : l = corruptB L bit mask := j4
      have hPg : P g := (HDD.out g).2 (.inl (List.mem_cons_of_mem _ (List.mem_cons_of_mem _ (List.mem_append_left _ (List.mem_of_getElem? K1.out)))))
      refine ⟨P, F, rfl, ⟨bl, gs, ws, wv, kv, ?_, HDD.out⟩, Nxt.same HL.out HP.out (HM1.out.ext.trans (j1.mono (fun x hx => hx ▸ hPg)))⟩
      have eL : D.lasting.getD i [] = L := by simp [List.getD, K2.out]
      rw [eL, ← e]
      exact HD1.out.rowSet K1.out j1 j2 j3 HGN.out.1 HGN.out.2
end
end Go.Proofs.YtidjkcfjocppmaaDoor
