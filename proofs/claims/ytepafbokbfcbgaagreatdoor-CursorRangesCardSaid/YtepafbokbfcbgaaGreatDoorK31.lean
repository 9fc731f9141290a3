/- lookup.Path, Value, Get. | ref07.Bytes. | Pages as a row of the call's own, each with its body. Over any program but for the types' numbers. | lookup.Get. -/
import Derived.Test.YtepafbokbfcbgaaGreatDoorK30
import Derived.Test.YtepafbokbfcbgaaGreatDoorK19
import Derived.Test.YtepafbokbfcbgaaGreatDoorK28
import Derived.IntWalk
import Derived.Test.YtepafbokbfcbgaaGreatDoorK26
import Derived.Test.YtepafbokbfcbgaaGreatDoorK20
namespace Go.Proofs.YtepafbokbfcbgaaGreatDoor
open Go.RowKit
attribute [local go_sem ↓] Go.wp_at_zero Go.wp_at_succ
def ValRes (F : Nat → Prop) (ad : Nat → Addr) (w' : World) (r : ByteArray ⊕ Err) (e : Ending) : Prop :=
  match r with
  | .inl v => e = .returned (.tuple #[.string v, .nilIface])
  | .inr (l, k) => ∃ f, e = .returned (.tuple #[.string ⟨#[]⟩, faultV f]) ∧ ErrC F ad w' (faultV f) l k
def PathRes (F : Nat → Prop) (ad : Nat → Addr) (w' : World) (r : (List (Int × Nat) × Bool) ⊕ Err) (e : Ending) : Prop :=
  match r with
  | .inl (st, b) => ∃ sv, e = .returned (.tuple #[sv, .bool b, .nilIface]) ∧ Sl F w' 2 encSt sv st
  | .inr (l, k) => ∃ f, e = .returned (.tuple #[.slice none 0 0, .bool false, faultV f]) ∧ ErrC F ad w' (faultV f) l k
def LookRes (F : Nat → Prop) (ad : Nat → Addr) (w' : World) (r : Option ByteArray ⊕ Err) (e : Ending) : Prop :=
  match r with
  | .inl (some v) => e = .returned (.tuple #[.string v, .bool true, .nilIface])
  | .inl none => e = .returned (.tuple #[.string ⟨#[]⟩, .bool false, .nilIface])
  | .inr (l, k) => ∃ f, e = .returned (.tuple #[.string ⟨#[]⟩, .bool false, faultV f]) ∧ ErrC F ad w' (faultV f) l k
section
variable {P P' P1 P2 F F' F1 F2 Q : Nat → Prop} {ad : Nat → Addr} {w w' wr w2 : World} {c s : Nat} {G : GA} {l : List Nat} {v v' : Value} {gen : Nat}
set_option maxRecDepth 100000 in
theorem value_any (hL : Env F ad w) (hP : ∀ k, P k → F k) (h : PgR F w P c s G l) (gen : Nat) (e : EntryA) (hid : -9223372036854775808 ≤ e.chain ∧ e.chain ≤ 9223372036854775807) (hok : valueOk G e) :
    Calls Tryz.prog 69 #[pgV c s gen, .agg #[.string e.key, .string e.value, .int .i64 e.chain, .int .i64 e.size]] w (PgDone F P ad w c s G l (fun F' w' ed => ValRes F' ad w' (valueA G e) ed)) := by
  obtain ⟨key, value, chain, size⟩ := e
  simp only at hid
  have m0 : Ext w ((w.alloc (.cells #[.pointer (some ⟨c, 0, none⟩), .pointer (some ⟨s, 0, none⟩), .int .u64 (gen : Int)] 34)).alloc (.cells #[.string key, .string value, .int .i64 chain, .int .i64 size] 131)) := ((Mods.refl _ w).alloc _).alloc _
  have HN0 := Lib.hid (Nxt.ext hL hP m0)
  have HG0 := Lib.hid (h.at m0)
  have HOK := Lib.hid hok
  by_cases hz : chain = 0
  · have hzb : (chain == 0) = true := beq_iff_eq.2 hz
    have HV : Hid (valueA G ⟨key, value, chain, size⟩ = .inl value) := Lib.hid (by unfold valueA; rw [if_pos hz])
    clear hL hP h m0 hok hz
    unfold pgV
    go_enter Tryz.func69, Tryz.ntmps69
    go_wp2_with fail
    go_ret2
    exact ⟨P, F, HG0.out, HN0.out, by rw [HV.out]; rfl⟩
  · have hzb : (chain == 0) = false := beq_eq_false_iff_ne.2 hz
    have HRD := Lib.hid (chRead_any HN0.out.env HN0.out.sub HG0.out gen chain size hid (hok hz))
    have HV : Hid (valueA G ⟨key, value, chain, size⟩ = match chErr G chain size with | none => .inl ⟨((walkA G size.toNat chain size).1.flatMap (·.2)).toArray⟩ | some (l, k) => .inr (-1 :: l, k)) := Lib.hid (by unfold valueA; rw [if_neg hz]; rfl)
    clear hL hP h m0 hok hz
    unfold pgV at HRD ⊢
    go_enter Tryz.func69, Tryz.ntmps69
    go_wp2_with fail
    refine (HRD.out).mono ?_
    rintro e w2 ⟨P2, F2, hG2, hN2, ⟨hc, rfl⟩ | ⟨⟨el, ek⟩, f, hc, rfl, hE⟩⟩
    · have HG2 := Lib.hid hG2
      have HN2 := Lib.hid hN2
      have HC := Lib.hid hc
      clear hG2 hN2 hc
      go_wp2_with fail
      refine (wrap_nil _ _).mono ?_
      rintro e w3 ⟨rfl, rfl⟩
      go_wp2_with fail
      go_ret2
      exact ⟨P2, F2, HG2.out, HN0.out.trans HN2.out, by rw [HV.out, HC.out]; rfl⟩
    · have HG2 := Lib.hid hG2
      have HN2 := Lib.hid hN2
      have HC := Lib.hid hc
      have HE := Lib.hid hE
      clear hG2 hN2 hc hE
      go_wp2_with fail
      refine (wrap_any HN2.out.env _ _ _ _ HE.out).mono ?_
      rintro e w3 ⟨f3, rfl, hE3, hm3⟩
      have HE3 := Lib.hid hE3
      have HM3 := Lib.hid hm3
      clear hE3 hm3
      go_wp2_with fail
      go_ret2
      exact ⟨P2, F2, HG2.out.at HM3.out, (HN0.out.trans HN2.out).trans (Nxt.ext HN2.out.env HN2.out.sub HM3.out), by rw [HV.out, HC.out]; exact ⟨f3, rfl, HE3.out⟩⟩
end
end Go.Proofs.YtepafbokbfcbgaaGreatDoor
namespace Go.Proofs.YtepafbokbfcbgaaGreatDoor
open Go.RowKit
attribute [local go_sem ↓] Go.wp_at_zero Go.wp_at_succ
/-- the numbers of a node fit their bytes. -/
def okB (n : NodeA) : Prop :=
  if n.leaf = true then n.entries.length < 65536 ∧ ∀ (k : Nat) (e : EntryA), n.entries[k]? = some e → e.key.size < 256 ∧ e.value.size < 256 ∧ 0 ≤ e.chain ∧ e.chain < 4294967296 ∧ 0 ≤ e.size ∧ e.size < 4294967296
  else n.kids.length = n.keys.length + 1 ∧ n.kids.length < 65536 ∧ (∀ (k : Nat) (s : ByteArray), n.keys[k]? = some s → s.size < 256) ∧ ∀ (k : Nat) (c : Int), n.kids[k]? = some c → 0 ≤ c ∧ c < 4294967296
theorem okB_right {n : NodeA} (h : rightN n = true) : okB n := by
  unfold okB
  cases hl : n.leaf with
  | true =>
    rw [if_pos rfl]
    refine ⟨by have := right_len hl h; omega, fun k e he => ?_⟩
    have h1 := right_entry hl h he
    unfold rightE at h1
    simp only [Bool.and_eq_true] at h1
    have h2 := (keyB_iff e.key).1 h1.1
    have h3 := h1.2
    split at h3
    · simp only [Bool.and_eq_true, decide_eq_true_eq] at h3; omega
    · simp only [Bool.and_eq_true, decide_eq_true_eq, kidB] at h3; omega
  | false =>
    rw [if_neg (by simp)]
    obtain ⟨g1, g2, g3⟩ := right_256 hl h
    exact ⟨g3, by omega, fun k s hs => right_keys hl h hs, fun k c hc => by have := right_kid hl h hc; omega⟩
section
variable {F : Nat → Prop} {w w' : World}
theorem Sl.zero (W : World) (a : Option Addr) : Sl (fun _ => False) W 1 encB (.slice a 0 0) ([] : List UInt8) := ⟨a, 0, rfl, Nat.le_refl _, by simp [maxLen], by simp, .inl rfl⟩
/-- bytes of the call's own. -/
structure ByS (w w1 : World) (n : NodeA) (ve vk vi v : Value) (l : List UInt8) : Prop where
  ext : Ext w w1
  own : Own (fun _ => False) w1 w.heap.size 5 1 encB v l
  box : Blk w1 w.heap.size #[.bool n.leaf, ve, vk, vi] 134
theorem ByS.next {w1 w2 : World} {n : NodeA} {ve vk vi v v' : Value} {l l' : List UInt8} (h : ByS w w1 n ve vk vi v l) (m : Ext w1 w2) (ho : Own (fun _ => False) w2 w1.heap.size 5 1 encB v' l') : ByS w w2 n ve vk vi v' l' :=
  ⟨h.ext.trans m, ho.rebase h.ext.size, h.box.ext m⟩
theorem ByS.sl {w1 : World} {n : NodeA} {ve vk vi v : Value} {l : List UInt8} (h : ByS w w1 n ve vk vi v l) (hl : l.length ≤ 100000) : Sl (fun _ => False) w1 1 encB v l := h.own.sl encB_ok.len (by omega)
set_option maxRecDepth 100000 in
set_option maxHeartbeats 2000000 in
theorem bytesL_any (n : NodeA) (hlf : n.leaf = true) (ve vk vi : Value) (hve : Sl F w 4 encE ve n.entries) (hok : okB n) (hlen : (bytesN n).length ≤ 100000) :
    Calls Tryz.prog 105 #[.agg #[.bool true, ve, vk, vi]] w fun e w' => ∃ v, e = .returned v ∧ Own (fun _ => False) w' w.heap.size 5 1 encB v (bytesN n) ∧ Ext w w' := by
  obtain ⟨ae, ce, rfl, he1, he2, he3, hee⟩ := hve
  unfold maxLen at he2
  unfold okB at hok
  rw [if_pos hlf] at hok
  have HEE := Lib.hid hee
  have HOK := Lib.hid hok
  have HLF := Lib.hid hlf
  have HLEN := Lib.hid hlen
  have HB0 : Hid (Blk ((w.alloc (.cells #[.bool true, .slice ae n.entries.length ce, vk, vi] 134)).alloc (.cells #[] 5)) w.heap.size #[.bool n.leaf, .slice ae n.entries.length ce, vk, vi] 134) := Lib.hid (by rw [hlf]; exact (Blk.new w _ _).alloc _)
  have h64 : n.entries.length < 65536 := hok.1
  clear hee hok hlf hlen
  go_enter Tryz.func105, Tryz.ntmps105
  go_wp2_with fail
  refine (num07_2 (F := fun _ => False) _ [] ⟨_, 0, rfl, Nat.le_refl _, by simp [maxLen], by simp, .inl rfl⟩ n.entries.length h64 (by simp)).mono ?_
  rintro e w1 ⟨v1, rfl, hO1, hm1⟩
  have HS1 : Hid (ByS w w1 n (.slice ae n.entries.length ce) vk vi v1 (leafPre n 0)) := Lib.hid (by
    rw [leafPre_zero]
    rw [List.nil_append] at hO1
    exact ⟨(((Mods.refl _ w).alloc _).alloc _).trans hm1, hO1.rebase (base' := w.heap.size) (by simp; omega), HB0.out.ext hm1⟩)
  clear hO1 hm1
  go_wp2_with fail
  go_loopg [3, 4] n.entries.length (fun m v3 v4 wr => ∃ (k : Nat), k + m = n.entries.length ∧ v4 = .int .i64 k ∧ Hid (ByS w wr n (.slice ae n.entries.length ce) vk vi v3 (leafPre n k)))
  case atStart => exact ⟨0, by omega, rfl, HS1⟩
  case round =>
    obtain ⟨k, hkm, rfl, HS⟩ := hrel
    have b1 := HS.out.box.cell (o := 1) (v := .slice ae n.entries.length ce) rfl
    by_cases hlt : k < n.entries.length
    · obtain ⟨b, off, rfl, _, _, hc⟩ := Sl.at HEE.out HS.out.ext (fun _ _ f => f.elim) k hlt
      have hen : n.entries[k]? = some n.entries[k] := List.getElem?_eq_getElem hlt
      have hpre := leafPre_step n hen
      have hpl : (leafPre n (k + 1)).length ≤ 100000 := Nat.le_trans (leafPre_len HLF.out (k + 1)) HLEN.out
      have hoe := HOK.out.2 k _ hen
      rw [hpre, List.length_append] at hpl
      clear hen
      generalize n.entries[k] = en at *
      obtain ⟨key, value, chain, size⟩ := en
      simp only at hoe
      obtain ⟨o1, o2, o3, o4, o5, o6⟩ := hoe
      have c0 := hc 0 (.string key) rfl
      simp only [Nat.add_zero] at c0
      have c1 := hc 1 (.string value) rfl
      have c2 := hc 2 (.int .i64 chain) rfl
      have c3 := hc 3 (.int .i64 size) rfl
      have HPRE := Lib.hid hpre
      generalize hq : leafPre n k = q at *
      have i0 : (0 : Int) ≤ (k : Int) := by omega
      have i1 : (k : Int) < (n.entries.length : Int) := by omega
      clear hc hpre hq
      by_cases hz : chain = 0
      · subst hz
        have HBY : Hid (bytesE ⟨key, value, 0, size⟩ = bytesT key ++ (leB 1 0 ++ bytesT value)) := Lib.hid rfl
        have HPL : Hid (q.length + (bytesT key ++ (leB 1 0 ++ bytesT value)).length ≤ 100000) := Lib.hid hpl
        clear hpl
        go_wp2_with fail
        refine (text07v _ q (HS.out.sl (by have := HPL.out; omega)) key o1 (by have := HPL.out; omega)).mono ?_
        rintro e w2 ⟨v2, rfl, hO2, hm2⟩
        have y0 := cellE hm2 b1
        have y1 := cellE hm2 c1
        have y2 := cellE hm2 c2
        have HS2 := Lib.hid (HS.out.next hm2 hO2)
        have HLA : Hid ((q ++ bytesT key).length ≤ 100000) := Lib.hid (by have h1 := HPL.out; simp only [List.length_append] at h1 ⊢; omega)
        have HLB : Hid ((q ++ bytesT key ++ leB 1 0).length ≤ 100000 ∧ (q ++ bytesT key ++ leB 1 0).length ≤ 140737488355328) := Lib.hid (by have h1 := HPL.out; simp only [List.length_append] at h1 ⊢; omega)
        clear hO2 hm2 b1 c0 c1 c2 c3
        go_wp2_with fail
        go_region_held3 (fun w' => w'.cell? ⟨w.heap.size, 1, none⟩ = some (.slice (some ⟨b, off, none⟩) n.entries.length ce) ∧ w'.cell? ⟨b, off + k * 4 + 1, none⟩ = some (.string value))
          (first | (with_reducible exact ⟨y0, y1⟩) | (with_reducible exact ⟨z0, z1⟩) | go_keep)
          (first
            | (go_at_call 127; (with_reducible refine (num07_01 _ (q ++ bytesT key) ((HS2.out.sl HLA.out).ext (Mods.refl _ _).drew) HLA.out).mono ?_); rintro e w3 ⟨v3, rfl, hO3, hm3⟩; have z0 := cellE hm3 y0; have z1 := cellE hm3 y1)
            | (go_at_call 128; (with_reducible refine (text07v _ _ (hO3.sl encB_ok.len HLB.out.2) value o2 HLB.out.1).mono ?_); rintro e w4 ⟨v4, rfl, hO4, hm4⟩; have z0 := cellE hm4 z0; have z1 := cellE hm4 z1)
            | fail)
        have HS4 := Lib.hid ((HS2.out.next ((Mods.refl _ w2).drew.trans hm3) hO3).next hm4 hO4)
        have HEQ : Hid (leafPre n (k + 1) = q ++ bytesT key ++ leB 1 0 ++ bytesT value) := Lib.hid (by rw [HPRE.out, HBY.out]; simp only [List.append_assoc])
        clear hO3 hm3 hO4 hm4 z0 z1 y0 y1 y2
        go_wp2_with fail
        go_roundg (gk - 1)
        case measure => omega
        case rel => exact ⟨k + 1, by omega, by go_num, Lib.hid (by rw [HEQ.out]; exact HS4.out)⟩
      · have hzb : (chain == 0) = false := beq_eq_false_iff_ne.2 hz
        obtain ⟨cn, rfl⟩ : ∃ cn : Nat, chain = (cn : Int) := ⟨chain.toNat, by omega⟩
        obtain ⟨sn, rfl⟩ : ∃ sn : Nat, size = (sn : Int) := ⟨size.toNat, by omega⟩
        have HBY : Hid (bytesE ⟨key, value, (cn : Int), (sn : Int)⟩ = bytesT key ++ (leB 1 1 ++ (leB 4 cn ++ leB 4 sn))) := Lib.hid (by unfold bytesE; simp only [if_neg hz, Int.toNat_natCast])
        have HPL : Hid (q.length + (bytesT key ++ (leB 1 1 ++ (leB 4 cn ++ leB 4 sn))).length ≤ 100000) := Lib.hid (by rw [← HBY.out]; exact hpl)
        have hcn : cn < 4294967296 := by omega
        have hsn : sn < 4294967296 := by omega
        clear hpl hz
        go_wp2_with fail
        refine (text07v _ q (HS.out.sl (by have := HPL.out; omega)) key o1 (by have := HPL.out; omega)).mono ?_
        rintro e w2 ⟨v2, rfl, hO2, hm2⟩
        have y0 := cellE hm2 b1
        have y1 := cellE hm2 c2
        have y2 := cellE hm2 c3
        have HS2 := Lib.hid (HS.out.next hm2 hO2)
        have HLA : Hid ((q ++ bytesT key).length ≤ 100000) := Lib.hid (by have h1 := HPL.out; simp only [List.length_append] at h1 ⊢; omega)
        have HLB : Hid ((q ++ bytesT key ++ leB 1 1 ++ leB 4 cn).length ≤ 100000 ∧ (q ++ bytesT key ++ leB 1 1 ++ leB 4 cn).length ≤ 140737488355328 ∧ (q ++ bytesT key ++ leB 1 1).length ≤ 100000 ∧ (q ++ bytesT key ++ leB 1 1).length ≤ 140737488355328) := Lib.hid (by have h1 := HPL.out; simp only [List.length_append] at h1 ⊢; omega)
        clear hO2 hm2 b1 c0 c1 c2 c3
        go_wp2_with fail
        go_region_held3 (fun w' => w'.cell? ⟨w.heap.size, 1, none⟩ = some (.slice (some ⟨b, off, none⟩) n.entries.length ce) ∧ w'.cell? ⟨b, off + k * 4 + 2, none⟩ = some (.int .i64 (cn : Int)) ∧ w'.cell? ⟨b, off + k * 4 + 3, none⟩ = some (.int .i64 (sn : Int)))
          (first | (with_reducible exact ⟨y0, y1, y2⟩) | (with_reducible exact ⟨z0, z1, z2⟩) | go_keep)
          (first
            | (go_at_call 127; (with_reducible refine (num07_11 _ (q ++ bytesT key) ((HS2.out.sl HLA.out).ext (Mods.refl _ _).drew) HLA.out).mono ?_); rintro e w3 ⟨v3, rfl, hO3, hm3⟩; have z0 := cellE hm3 y0; have z1 := cellE hm3 y1; have z2 := cellE hm3 y2)
            | (go_at_call 127; (with_reducible refine (num07_4 _ _ (hO3.sl encB_ok.len HLB.out.2.2.2) cn hcn HLB.out.2.2.1).mono ?_); rintro e w4 ⟨v4, rfl, hO4, hm4⟩; have z0 := cellE hm4 z0; have z1 := cellE hm4 z1; have z2 := cellE hm4 z2)
            | (go_at_call 127; (with_reducible refine (num07_4 _ _ (hO4.sl encB_ok.len HLB.out.2.1) sn hsn HLB.out.1).mono ?_); rintro e w5 ⟨v5, rfl, hO5, hm5⟩; have z0 := cellE hm5 z0; have z1 := cellE hm5 z1; have z2 := cellE hm5 z2)
            | fail)
        have HS4 := Lib.hid (((HS2.out.next ((Mods.refl _ w2).drew.trans hm3) hO3).next hm4 hO4).next hm5 hO5)
        have HEQ : Hid (leafPre n (k + 1) = q ++ bytesT key ++ leB 1 1 ++ leB 4 cn ++ leB 4 sn) := Lib.hid (by rw [HPRE.out, HBY.out]; simp only [List.append_assoc])
        clear hO3 hm3 hO4 hm4 hO5 hm5 z0 z1 z2 y0 y1 y2
        go_wp2_with fail
        go_roundg (gk - 1)
        case measure => omega
        case rel => exact ⟨k + 1, by omega, by go_num, Lib.hid (by rw [HEQ.out]; exact HS4.out)⟩
    · have hke : k = n.entries.length := by omega
      rw [leafPre_all HLF.out hke] at HS
      clear hke
      go_wp2_with fail
      go_ret
      exact ⟨_, rfl, HS.out.own, HS.out.ext⟩
set_option maxRecDepth 100000 in
set_option maxHeartbeats 2000000 in
theorem bytesI_any (n : NodeA) (hlf : n.leaf = false) (ve vk vi : Value) (hvk : Sl F w 1 encS vk n.keys) (hvi : Sl F w 1 encI vi n.kids) (hok : okB n) (hlen : (bytesN n).length ≤ 100000) :
    Calls Tryz.prog 105 #[.agg #[.bool false, ve, vk, vi]] w fun e w' => ∃ v, e = .returned v ∧ Own (fun _ => False) w' w.heap.size 5 1 encB v (bytesN n) ∧ Ext w w' := by
  obtain ⟨ak, ck, rfl, hk1, hk2, hk3, hkk⟩ := hvk
  obtain ⟨ai, ci, rfl, hi1, hi2, hi3, hii⟩ := hvi
  unfold maxLen at hk2 hi2
  unfold okB at hok
  rw [if_neg (by rw [hlf]; simp)] at hok
  obtain ⟨g1, g2, g3, g4⟩ := hok
  have HKK := Lib.hid hkk
  have HII := Lib.hid hii
  have HG1 := Lib.hid g1
  have HG3 := Lib.hid g3
  have HG4 := Lib.hid g4
  have HLF := Lib.hid hlf
  have HLEN := Lib.hid hlen
  have hkz : 0 < n.kids.length := by omega
  have HKL : Hid (n.keys.length + 1 = n.kids.length) := Lib.hid g1.symm
  obtain ⟨kb, koff, rfl, _, _, hc0⟩ := Sl.at HII.out (Mods.refl (fun _ => False) w) (fun _ _ f => f.elim) 0 hkz
  obtain ⟨z, hz⟩ : ∃ z : Nat, n.kids[0] = (z : Int) := ⟨n.kids[0].toNat, by have := g4 0 _ (List.getElem?_eq_getElem hkz); omega⟩
  have hz32 : z < 4294967296 := by have := g4 0 _ (List.getElem?_eq_getElem hkz); omega
  have HPZ : Hid (innerPre n 0 = leB 2 n.kids.length ++ leB 4 z) := Lib.hid (by rw [innerPre_zero, headD_at n.kids hkz, hz]; rfl)
  have d0 : w.cell? ⟨kb, koff, none⟩ = some (.int .i64 (z : Int)) := by
    have := hc0 0 _ rfl
    rw [hz] at this
    simpa using this
  have m0 : Ext w (w.alloc (.cells #[.bool false, ve, .slice ak n.keys.length ck, .slice (some ⟨kb, koff, none⟩) n.kids.length ci] 134)) := (Mods.refl _ w).alloc _
  have HB0 : Hid (Blk (w.alloc (.cells #[.bool false, ve, .slice ak n.keys.length ck, .slice (some ⟨kb, koff, none⟩) n.kids.length ci] 134)) w.heap.size #[.bool n.leaf, ve, .slice ak n.keys.length ck, .slice (some ⟨kb, koff, none⟩) n.kids.length ci] 134) := Lib.hid (by rw [hlf]; exact Blk.new w _ _)
  have d1 := cellE m0 d0
  have p3 := HB0.out.cell (o := 3) (v := .slice (some ⟨kb, koff, none⟩) n.kids.length ci) rfl
  have d2 := cellE ((Mods.refl _ _).alloc (.cells #[] 5)) d1
  have p3b := cellE ((Mods.refl _ _).alloc (.cells #[] 5)) p3
  have i0 : (0 : Int) < (n.kids.length : Int) := by omega
  have HM0 := Lib.hid m0
  clear hkk hii g1 g3 g4 hlf hlen hc0 hz d0 m0
  go_enter Tryz.func105, Tryz.ntmps105
  go_wp2_with fail
  go_region_held3 (fun w' => w'.cell? ⟨w.heap.size, 3, none⟩ = some (.slice (some ⟨kb, koff, none⟩) n.kids.length ci) ∧ w'.cell? ⟨kb, koff, none⟩ = some (.int .i64 (z : Int)))
    (first | (with_reducible exact ⟨p3, d1⟩) | (with_reducible exact ⟨p3b, d2⟩) | (with_reducible exact ⟨z0, z1⟩) | go_keep)
    (first
      | (go_at_call 127; (with_reducible refine (num07_2 (F := fun _ => False) _ [] (Sl.zero _ _) n.kids.length g2 (Nat.zero_le _)).mono ?_); rintro e w1 ⟨v1, rfl, hO1, hm1⟩; have z0 := cellE hm1 p3b; have z1 := cellE hm1 d2)
      | (go_at_call 127; (with_reducible refine (num07_4 _ _ (hO1.sl encB_ok.len (by simp [leB_length])) z hz32 (by simp [leB_length])).mono ?_); rintro e w2 ⟨v2, rfl, hO2, hm2⟩; have z0 := cellE hm2 z0; have z1 := cellE hm2 z1)
      | fail)
  have HS1 : Hid (ByS w w2 n ve (.slice ak n.keys.length ck) (.slice (some ⟨kb, koff, none⟩) n.kids.length ci) v2 (innerPre n 0)) := Lib.hid (by
    rw [HPZ.out]
    rw [List.nil_append] at hO2
    have hx : Ext w w2 := (((HM0.out.alloc (.cells #[] 5)).drew).trans hm1).trans hm2
    exact ⟨hx, hO2.rebase (base' := w.heap.size) (by have := hm1.size; simp at this; omega), HB0.out.ext ((((Mods.refl _ _).alloc (.cells #[] 5)).drew.trans hm1).trans hm2)⟩)
  clear hO1 hm1 hO2 hm2 z0 z1 d1 d2 p3 p3b
  go_wp2_with fail
  go_loopg [5, 6] n.keys.length (fun m v5 v6 wr => ∃ (k : Nat), k + m = n.keys.length ∧ v6 = .int .i64 k ∧ Hid (ByS w wr n ve (.slice ak n.keys.length ck) (.slice (some ⟨kb, koff, none⟩) n.kids.length ci) v5 (innerPre n k)))
  case atStart => exact ⟨0, by omega, rfl, HS1⟩
  case round =>
    obtain ⟨k, hkm, rfl, HS⟩ := hrel
    have p2 := HS.out.box.cell (o := 2) (v := .slice ak n.keys.length ck) rfl
    have p3 := HS.out.box.cell (o := 3) (v := .slice (some ⟨kb, koff, none⟩) n.kids.length ci) rfl
    by_cases hlt : k < n.keys.length
    · obtain ⟨b, off, rfl, _, _, hc⟩ := Sl.at HKK.out HS.out.ext (fun _ _ f => f.elim) k hlt
      have hlk : k + 1 < n.kids.length := by rw [← HKL.out]; omega
      have hen : n.keys[k]? = some n.keys[k] := List.getElem?_eq_getElem hlt
      have hkd : n.kids[k + 1]? = some n.kids[k + 1] := List.getElem?_eq_getElem hlk
      have hpre := innerPre_step n hen hkd
      have hks := HG3.out k _ hen
      have hkr := HG4.out (k + 1) _ hkd
      have hpl : (innerPre n (k + 1)).length ≤ 100000 := Nat.le_trans (innerPre_len HLF.out (k + 1)) HLEN.out
      rw [hpre, List.length_append] at hpl
      obtain ⟨y, hy⟩ : ∃ y : Nat, n.kids[k + 1] = (y : Int) := ⟨n.kids[k + 1].toNat, by omega⟩
      have d0 := kid_cell (F2 := F) HII.out (HS.out.ext.ext) hlk hy.symm
      obtain ⟨key, hkey⟩ : ∃ key, key = n.keys[k] := ⟨_, rfl⟩
      have c0 := hc 0 (.string key) (by rw [hkey]; rfl)
      simp only [Nat.add_zero, Nat.mul_one] at c0
      have HBY : Hid (innerPre n (k + 1) = innerPre n k ++ (bytesT key ++ leB 4 y)) := Lib.hid (by rw [hpre, hkey]; unfold bytesK; simp only [hy, Int.toNat_natCast])
      have HPL : Hid ((innerPre n k).length + (bytesT key ++ leB 4 y).length ≤ 100000) := Lib.hid (by
        have h1 := hpl
        unfold bytesK at h1
        simp only [hy, Int.toNat_natCast, ← hkey] at h1
        exact h1)
      rw [← hkey] at hks
      have hy32 : y < 4294967296 := by omega
      generalize innerPre n k = q at *
      have i0 : (0 : Int) ≤ (k : Int) := by omega
      have i1 : (k : Int) < (n.keys.length : Int) := by omega
      have i2 : (0 : Int) ≤ (k : Int) + 1 := by omega
      have i3 : (k : Int) + 1 < (n.kids.length : Int) := by omega
      have hw1 : IntKind.i64.wrap ((k : Int) + 1) = (k : Int) + 1 := IntWalk.i64_in _ (by omega)
      have hw2 : ((k : Int) + 1).toNat = k + 1 := by omega
      have HLA : Hid (q.length ≤ 100000) := Lib.hid (by have h1 := HPL.out; omega)
      have HLB : Hid ((q ++ bytesT key).length ≤ 100000 ∧ (q ++ bytesT key).length ≤ 140737488355328) := Lib.hid (by have h1 := HPL.out; simp only [List.length_append] at h1 ⊢; omega)
      clear hc hen hkd hpre hpl hkr hy hkey
      go_wp2_with fail
      go_region_held3 (fun w' => w'.cell? ⟨w.heap.size, 2, none⟩ = some (.slice (some ⟨b, off, none⟩) n.keys.length ck) ∧ w'.cell? ⟨w.heap.size, 3, none⟩ = some (.slice (some ⟨kb, koff, none⟩) n.kids.length ci) ∧ w'.cell? ⟨b, off + k, none⟩ = some (.string key) ∧ w'.cell? ⟨kb, koff + (k + 1), none⟩ = some (.int .i64 (y : Int)))
        (first | (with_reducible exact ⟨p2, p3, c0, d0⟩) | (with_reducible exact ⟨z0, z1, z2, z3⟩) | go_keep)
        (first
          | (go_at_call 128; (with_reducible refine (text07v _ q ((HS.out.sl HLA.out).ext (Mods.refl _ _).drew) key hks HLA.out).mono ?_); rintro e w3 ⟨v3, rfl, hO3, hm3⟩; have z0 := cellE hm3 p2; have z1 := cellE hm3 p3; have z2 := cellE hm3 c0; have z3 := cellE hm3 d0)
          | (go_at_call 127; (with_reducible refine (num07_4 _ _ (hO3.sl encB_ok.len HLB.out.2) y hy32 HLB.out.1).mono ?_); rintro e w4 ⟨v4, rfl, hO4, hm4⟩; have z0 := cellE hm4 z0; have z1 := cellE hm4 z1; have z2 := cellE hm4 z2; have z3 := cellE hm4 z3)
          | fail)
      have HS4 := Lib.hid ((HS.out.next ((Mods.refl _ wr).drew.trans hm3) hO3).next hm4 hO4)
      have HEQ : Hid (innerPre n (k + 1) = q ++ bytesT key ++ leB 4 y) := Lib.hid (by rw [HBY.out]; simp only [List.append_assoc])
      clear hO3 hm3 hO4 hm4 z0 z1 z2 z3 p2 p3 c0 d0 hw1 hw2
      go_wp2_with fail
      go_roundg (gk - 1)
      case measure => omega
      case rel => exact ⟨k + 1, by omega, by go_num, Lib.hid (by rw [HEQ.out]; exact HS4.out)⟩
    · have hke : k = n.keys.length := by omega
      rw [innerPre_all HLF.out HG1.out hke] at HS
      clear hke
      go_wp2_with fail
      go_ret
      exact ⟨_, rfl, HS.out.own, HS.out.ext⟩
theorem bytes07_any (n : NodeA) (ve vk vi : Value) (hve : Sl F w 4 encE ve n.entries) (hvk : Sl F w 1 encS vk n.keys) (hvi : Sl F w 1 encI vi n.kids) (hok : okB n) (hlen : (bytesN n).length ≤ 100000) :
    Calls Tryz.prog 105 #[.agg #[.bool n.leaf, ve, vk, vi]] w fun e w' => ∃ v, e = .returned v ∧ Own (fun _ => False) w' w.heap.size 5 1 encB v (bytesN n) ∧ Ext w w' := by
  cases hlf : n.leaf
  · exact bytesI_any n hlf ve vk vi hvk hvi hok hlen
  · exact bytesL_any n hlf ve vk vi hve hok hlen
end
end Go.Proofs.YtepafbokbfcbgaaGreatDoor
namespace Go.Proofs.YtepafbokbfcbgaaGreatDoor
open Go.RowKit
/-- a page, and where its body lies. -/
abbrev PgE := PageA × (Option Addr × Nat × Nat)
def svE (x : PgE) : Value := .slice x.2.1 x.2.2.1 x.2.2.2
def encPg (x : PgE) : List Value := [.int .i64 x.1.kind, .int .i64 x.1.id, .int .u64 (x.1.gen : Int), svE x]
theorem encPg_ok : EncOk encPg 4 := ⟨fun _ => rfl, by intro x u hu; simp [encPg, svE] at hu; rcases hu with rfl | rfl | rfl | rfl <;> rfl⟩
theorem Tryz.mkPg : (Tryz.prog.info? 91).map (fun i => (i.zero, i.size, i.bytes)) = some (some (.agg #[.int .i64 0, .int .i64 0, .int .u64 0, .slice none 0 0]), 4, 48) := by kernel_rfl
theorem Tryz.elPg : ElT Tryz.prog 25 91 (.agg #[.int .i64 0, .int .i64 0, .int .u64 0, .slice none 0 0]) 4 48 := ⟨Tryz.underlying25, Tryz.mkPg, rfl, by decide, by decide⟩
theorem flat_set {α : Type} {enc : α → List Value} {sz : Nat} (henc : ∀ x, (enc x).length = sz) : ∀ (l : List α) (i : Nat) (x x' : α) (j : Nat) (u : Value), l[i]? = some x → j < sz → (enc x).set j u = enc x' → (l.set i x').flatMap enc = (l.flatMap enc).set (i * sz + j) u
  | [], i, x, x', j, u, h, _, _ => by simp at h
  | y :: l, 0, x, x', j, u, h, hj, he => by
    simp at h; subst h
    rw [List.set_cons_zero, List.flatMap_cons, List.flatMap_cons, Nat.zero_mul, Nat.zero_add, ← he, List.set_append_left _ _ (by rw [henc]; exact hj)]
  | y :: l, i + 1, x, x', j, u, h, hj, he => by
    rw [List.set_cons_succ, List.flatMap_cons, List.flatMap_cons, flat_set henc l i x x' j u (by simpa using h) hj he, List.set_append_right _ _ (by rw [henc, Nat.add_mul]; omega), henc]
    congr 2
    rw [Nat.add_mul]; omega
/-- a cell of a row's element is stored. -/
theorem Own.set {α : Type} {F : Nat → Prop} {w : World} {base : Nat} {e : TypeId} {sz : Nat} {enc : α → List Value} {g n c : Nat} {l : List α} (h : Own F w base e sz enc (.slice (some ⟨g, 0, none⟩) n c) l) (henc : ∀ x, (enc x).length = sz) {i j : Nat} {x x' : α} {u : Value} (hx : l[i]? = some x) (hj : j < sz) (he : (enc x).set j u = enc x') :
    Own F (w.setCell ⟨g, i * sz + j, none⟩ u) base e sz enc (.slice (some ⟨g, 0, none⟩) n c) (l.set i x') := by
  refine ⟨?_, h.2⟩
  rcases h.1.2 with ⟨h0, _⟩ | ⟨g', cap, cur, h0, hb, hg, h1, h2, h3, h4⟩
  · cases h0
  · injection h0 with h0 h0n h0c
    injection h0 with h0
    injection h0 with h0
    subst h0 h0c h0n
    refine ⟨by rw [flatMap_len henc], .inr ⟨g, c, cur.setIfInBounds (i * sz + j) u, by rw [List.length_set], hb, heap_setCell_same w g _ cur e u hg, by rw [List.length_set]; exact h1, h2, by simpa using h3, ?_⟩⟩
    rw [flat_set henc l i x x' j u hx hj he, ← h4, List.length_set]
    simp [List.take_set]
structure PgsR (w : World) (base : Nat) (pv : Value) (xs : List PgE) : Prop where
  row : Own NoF w base 91 4 encPg pv xs
  body : ∀ x ∈ xs, Own NoF w base 5 1 encB (svE x) x.1.body
section
variable {w w' : World} {base : Nat} {pv pv' : Value} {xs ys : List PgE}
theorem PgsR.nil (w : World) (base : Nat) : PgsR w base (.slice none 0 0) [] := ⟨Own.nil _ _ _ _ _ _, fun x h => by simp at h⟩
theorem PgsR.ext (h : PgsR w base pv xs) (m : Ext w w') : PgsR w' base pv xs := ⟨h.row.ext m, fun x hx => (h.body x hx).ext m⟩
theorem PgsR.rebase (h : PgsR w base pv xs) {base' : Nat} (hb : base' ≤ base) : PgsR w base' pv xs := ⟨h.row.rebase hb, fun x hx => (h.body x hx).rebase hb⟩
theorem PgsR.mods (h : PgsR w base pv xs) {G : Nat → Prop} (m : Mods G w w') (hr : ∀ g, pv.ownBlock = some g → ¬ G g) (hb : ∀ x ∈ xs, ∀ g, (svE x).ownBlock = some g → ¬ G g) : PgsR w' base pv xs :=
  ⟨h.row.mods m hr, fun x hx => (h.body x hx).mods m (hb x hx)⟩
/-- another row of another type turns. -/
theorem PgsR.other {α : Type} {F : Nat → Prop} {b2 : Nat} {e : TypeId} {sz : Nat} {enc : α → List Value} {v : Value} {l : List α} (h : PgsR w base pv xs) (ho : Own F w b2 e sz enc v l) (m : Mods (fun k => v.ownBlock = some k) w w') (h1 : 91 ≠ e) (h2 : 5 ≠ e) : PgsR w' base pv xs :=
  h.mods m (fun g hg e2 => h.row.far ho h1 g hg e2) (fun x hx g hg e2 => (h.body x hx).far ho h2 g hg e2)
theorem PgsR.blk (h : PgsR w base pv xs) {B : Nat} {c : Array Value} {t : TypeId} (hB : Blk w B c t) (m : Mods (fun k => k = B) w w') (h1 : t ≠ 91) (h2 : t ≠ 5) : PgsR w' base pv xs :=
  h.mods m (fun g hg e => Own.notB h.row hB h1 g hg e) (fun x hx g hg e => Own.notB (h.body x hx) hB h2 g hg e)
theorem PgsR.app (h : PgsR w base pv xs) (m : Mods (fun k => pv.ownBlock = some k) w w') (ho : Own NoF w' base 91 4 encPg pv' (xs ++ ys)) (hy : ∀ y ∈ ys, Own NoF w base 5 1 encB (svE y) y.1.body) : PgsR w' base pv' (xs ++ ys) :=
  ⟨ho, fun x hx => by
    rcases List.mem_append.1 hx with hx | hx
    · exact (h.body x hx).mods m (fun g hg e => (h.body x hx).far h.row (by decide) g hg e)
    · exact (hy x hx).mods m (fun g hg e => (hy x hx).far h.row (by decide) g hg e)⟩
end
end Go.Proofs.YtepafbokbfcbgaaGreatDoor
namespace Go.Proofs.YtepafbokbfcbgaaGreatDoor
open Go.RowKit
attribute [local go_sem ↓] Go.wp_at_zero Go.wp_at_succ
theorem ValRes.form {F : Nat → Prop} {ad : Nat → Addr} {w : World} {r : ByteArray ⊕ Err} {e : Ending} (h : ValRes F ad w r e) : ∃ v ev, e = .returned (.tuple #[.string v, ev]) := by
  rcases r with v | ⟨l, k⟩
  · exact ⟨v, _, h⟩
  · obtain ⟨f, h, _⟩ := h; exact ⟨_, _, h⟩
section
variable {P P' P1 P2 F F' F1 F2 Q : Nat → Prop} {ad : Nat → Addr} {w w' wr w2 : World} {c s : Nat} {G : GA} {l : List Nat} {v v' : Value} {gen : Nat}
set_option maxRecDepth 100000 in
set_option maxHeartbeats 1000000 in
theorem look_any (hL : Env F ad w) (hP : ∀ k, P k → F k) (h : PgR F w P c s G l) (gen : Nat) (root : Int) (key : ByteArray) (hk : lookOk G root key) :
    Calls Tryz.prog 57 #[pgV c s gen, .int .i64 root, .string key] w (PgDone F P ad w c s G l (fun F' w' e => LookRes F' ad w' (lookA G root key) e)) := by
  have m0 : Ext w (w.alloc (.cells #[.pointer (some ⟨c, 0, none⟩), .pointer (some ⟨s, 0, none⟩), .int .u64 (gen : Int)] 34)) := (Mods.refl _ w).alloc _
  have HN0 := Lib.hid (Nxt.ext hL hP m0)
  have HG0 := Lib.hid (h.at m0)
  have HB0 := Lib.hid (Blk.new w #[.pointer (some ⟨c, 0, none⟩), .pointer (some ⟨s, 0, none⟩), .int .u64 (gen : Int)] 34)
  have HK := Lib.hid hk
  have HBP : Hid (¬ P w.heap.size) := Lib.hid (fun hp => by have := h.bd _ hp; omega)
  clear hL hP h hk m0
  have HCK := fun op => lkCheck_any (c := c) (s := s) HN0.out.env op gen key
  have HFD := fun (F1 P1 : Nat → Prop) (wr : World) (h1 : Env F1 ad wr) (h2 : ∀ k, P1 k → F1 k) (h3 : PgR F1 wr P1 c s G l) => find_any h1 h2 h3 gen root key HK.out.1
  unfold pgV at HCK HFD ⊢
  have HCK := Lib.hid HCK
  have HFD := Lib.hid HFD
  go_enter Tryz.func57, Tryz.ntmps57
  go_wp2_with fail
  refine (HCK.out _).mono ?_
  rintro e w1 ⟨ev, rfl, hE, hm1⟩
  have hB1 := HB0.out.ext hm1
  have b0 := hB1.cell (o := 0) (v := .pointer (some ⟨c, 0, none⟩)) rfl
  have b1 := hB1.cell (o := 1) (v := .pointer (some ⟨s, 0, none⟩)) rfl
  have b2 := hB1.cell (o := 2) (v := .int .u64 (gen : Int)) rfl
  have HN1 := Lib.hid (HN0.out.trans (Nxt.ext HN0.out.env HN0.out.sub hm1))
  have HB1 := Lib.hid hB1
  have HG1 := Lib.hid (HG0.out.at hm1)
  clear hm1 hB1
  cases hc : lkCheck key with
  | some er =>
    obtain ⟨el, ek⟩ := er
    rw [hc] at hE
    obtain ⟨f, rfl, hE⟩ := hE
    have HE := Lib.hid hE
    have HV : Hid (lookA G root key = .inr (el, ek)) := Lib.hid (by unfold lookA; rw [hc])
    clear hE hc
    go_wp2_with fail
    refine bodyPost_ret (v := .tuple #[.string ⟨#[]⟩, .bool false, faultV f]) (by simp [results, Tryz.results57, go_sem]) rfl ?_
    exact ⟨P, F, HG1.out, HN1.out, by rw [HV.out]; exact ⟨f, rfl, HE.out⟩⟩
  | none =>
    rw [hc] at hE
    cases hE
    by_cases hr : root = 0
    · have hrb : (root == 0) = true := beq_iff_eq.2 hr
      have HV : Hid (lookA G root key = .inl none) := Lib.hid (by unfold lookA; rw [hc]; simp only [if_pos hr])
      clear hc hr
      go_wp2_with fail
      refine bodyPost_ret (v := .tuple #[.string ⟨#[]⟩, .bool false, .nilIface]) (by simp [results, Tryz.results57, go_sem]) rfl ?_
      exact ⟨P, F, HG1.out, HN1.out, by rw [HV.out]; rfl⟩
    · have hrb : (root == 0) = false := beq_eq_false_iff_ne.2 hr
      have HV : Hid (lookA G root key = match findA G key 16 [] root with | .inr (l, k) => .inr (-1 :: l, k) | .inl (_, n) => (match n.entries[(findN n key).1]? with | none => .inl none | some e => if (findN n key).2 = true then (match valueA G e with | .inl v => .inl (some v) | .inr (l, k) => .inr (-1 :: l, k)) else .inl none)) := Lib.hid (by unfold lookA; rw [hc]; simp only [if_neg hr]; rfl)
      clear hc hr
      go_wp2_with fail
      refine (HFD.out F P _ HN1.out.env HN1.out.sub HG1.out).mono ?_
      rintro e w2 ⟨P2, F2, hG2, hN2, hres⟩
      have HG2 := Lib.hid hG2
      have HN2 := Lib.hid hN2
      clear hG2 hN2
      generalize hfa : findA G key 16 [] root = r at hres
      have HFA := Lib.hid hfa
      clear hfa
      rcases r with ⟨st, n⟩ | ⟨el, ek⟩
      · obtain ⟨sv, ve, vk, vi, rfl, hss, hse, hsk, hsi⟩ := hres
        obtain ⟨sa, sc, rfl, _, _, _, _⟩ := hss
        obtain ⟨ea, ec, rfl, hec1, hec2, hec3, hee⟩ := _root_.id hse
        obtain ⟨ka, kc, rfl, _, _, _, _⟩ := _root_.id hsk
        obtain ⟨ia, ic, rfl, _, _, _, _⟩ := hsi
        unfold maxLen at hec2
        have m2 : Ext w2 (w2.alloc (.cells #[.bool n.leaf, .slice ea n.entries.length ec, .slice ka n.keys.length kc, .slice ia n.kids.length ic] 134)) := (Mods.refl _ w2).alloc _
        have HND := Lib.hid (findNode_any n key _ _ (.slice ia n.kids.length ic) (hse.ext m2) (hsk.ext m2))
        have HX2 := Lib.hid (Blk.new w2 #[.bool n.leaf, .slice ea n.entries.length ec, .slice ka n.keys.length kc, .slice ia n.kids.length ic] 134)
        have HEE := Lib.hid hee
        have HM2 := Lib.hid m2
        have HB2 := Lib.hid (HN2.out.blk HB1.out HBP.out)
        obtain ⟨at_, isb, hfn⟩ : ∃ a b, findN n key = (a, b) := ⟨_, _, rfl⟩
        have HFN := Lib.hid hfn
        rw [hfn] at HND
        have HV2 : Hid (lookA G root key = match n.entries[at_]? with | none => .inl none | some e => if isb = true then (match valueA G e with | .inl v => .inl (some v) | .inr (l, k) => .inr (-1 :: l, k)) else .inl none) := Lib.hid (by rw [HV.out, HFA.out]; simp only [hfn])
        have hisb : isb = true → at_ < n.entries.length := by
          intro hb
          unfold findN at hfn
          split at hfn
          · simp only [Prod.mk.injEq] at hfn
            obtain ⟨h1, h2⟩ := hfn
            rw [h1, hb] at h2
            split at h2
            · rename_i e he; exact (List.getElem?_eq_some_iff.1 he).1
            · cases h2
          · simp only [Prod.mk.injEq] at hfn
            rw [hb] at hfn; cases hfn.2
        have HIS := Lib.hid hisb
        clear hse hsk m2 hee hfn hisb
        go_wp2_with fail
        refine (HND.out).mono ?_
        rintro e w3 ⟨rfl, hm3⟩
        have HM3 := Lib.hid (HM2.out.trans hm3)
        have HX3 := Lib.hid (HX2.out.ext hm3)
        clear hm3
        cases isb
        · have HVN : Hid (lookA G root key = .inl none) := Lib.hid (by
            rw [HV2.out]
            split
            · rfl
            · rfl)
          go_wp2_with fail
          refine bodyPost_ret (v := .tuple #[.string ⟨#[]⟩, .bool false, .nilIface]) (by simp [results, Tryz.results57, go_sem]) rfl ?_
          exact ⟨P2, F2, HG2.out.at HM3.out, (HN1.out.trans HN2.out).trans (Nxt.ext HN2.out.env HN2.out.sub HM3.out), by rw [HVN.out]; rfl⟩
        · have hat := HIS.out rfl
          have HAT := Lib.hid hat
          obtain ⟨eb, eoff, rfl, _, hebF, hc4⟩ := Sl.at HEE.out HM3.out (fun _ _ f => f.elim) at_ hat
          obtain ⟨en, hen⟩ : ∃ en, en = n.entries[at_] := ⟨_, rfl⟩
          have HEN : Hid (n.entries[at_]? = some en) := Lib.hid (by rw [hen]; exact List.getElem?_eq_getElem hat)
          have hc4 : ∀ j u, (encE en)[j]? = some u → w3.cell? ⟨eb, eoff + at_ * 4 + j, none⟩ = some u := by rw [hen]; exact hc4
          have c0 := hc4 0 _ rfl
          simp only [Nat.add_zero] at c0
          have c1 := hc4 1 _ rfl
          have c2 := hc4 2 _ rfl
          have c3 := hc4 3 _ rfl
          have HVE : Hid (lookA G root key = match valueA G en with | .inl v => .inl (some v) | .inr (l, k) => .inr (-1 :: l, k)) := Lib.hid (by rw [HV2.out, HEN.out]; simp only [if_true])
          have HVO : Hid (valueOk G en) := Lib.hid (HK.out.2 st n en HFA.out (by rw [HFN.out]; exact HEN.out))
          have HRG : Hid (-9223372036854775808 ≤ en.chain ∧ en.chain ≤ 9223372036854775807) := Lib.hid (by
            obtain ⟨k1, k2⟩ := findA_right 16 [] root HFA.out
            have h3 := right_entry k2 k1 HEN.out
            unfold rightE at h3
            simp only [Bool.and_eq_true] at h3
            have h4 := h3.2
            split at h4
            · omega
            · simp only [Bool.and_eq_true, decide_eq_true_eq, kidB] at h4; omega)
          have HNB := Lib.hid (HN2.out.not HB1.out.lt HBP.out)
          have HNX : Hid (¬ P2 w2.heap.size) := Lib.hid (fun hp => by have := HN2.out.stp.bd _ hp; omega)
          have HNE : Hid (¬ P2 eb) := Lib.hid (fun hp => hebF (HN2.out.sub _ hp))
          have hB3 := HB2.out.ext HM3.out
          have p0 := hB3.cell (o := 0) (v := .pointer (some ⟨c, 0, none⟩)) rfl
          have p1 := hB3.cell (o := 1) (v := .pointer (some ⟨s, 0, none⟩)) rfl
          have p2 := hB3.cell (o := 2) (v := .int .u64 (gen : Int)) rfl
          have x1 := HX3.out.cell (o := 1) (v := .slice (some ⟨eb, eoff, none⟩) n.entries.length ec) rfl
          have i0 : (0 : Int) ≤ (at_ : Int) := by omega
          have i1 : (at_ : Int) < (n.entries.length : Int) := by omega
          have HVC := Lib.hid (value_any (HN2.out.env.mods HM3.out.drew.ext) HN2.out.sub (HG2.out.at HM3.out.drew) gen en HRG.out HVO.out)
          unfold pgV at HVC
          clear hen hc4 hB3
          go_wp2_with fail
          go_region_held3 (fun w' => w'.cell? ⟨w.heap.size, 0, none⟩ = some (.pointer (some ⟨c, 0, none⟩)) ∧ w'.cell? ⟨w.heap.size, 1, none⟩ = some (.pointer (some ⟨s, 0, none⟩)) ∧ w'.cell? ⟨w.heap.size, 2, none⟩ = some (.int .u64 (gen : Int)) ∧ w'.cell? ⟨w2.heap.size, 1, none⟩ = some (.slice (some ⟨eb, eoff, none⟩) n.entries.length ec) ∧
              w'.cell? ⟨eb, eoff + at_ * 4, none⟩ = some (.string en.key) ∧ w'.cell? ⟨eb, eoff + at_ * 4 + 1, none⟩ = some (.string en.value) ∧ w'.cell? ⟨eb, eoff + at_ * 4 + 2, none⟩ = some (.int .i64 en.chain) ∧ w'.cell? ⟨eb, eoff + at_ * 4 + 3, none⟩ = some (.int .i64 en.size))
            (first | (with_reducible exact ⟨p0, p1, p2, x1, c0, c1, c2, c3⟩) | (with_reducible exact ⟨y0, y1, y2, y3, z0, z1, z2, z3⟩) | go_keep)
            (first
              | (go_at_call 69; (with_reducible refine (HVC.out).mono ?_); rintro e w4 ⟨P4, F4, hG4, hN4, hres⟩; obtain ⟨vs, ev, rfl⟩ := hres.form; have y0 := cellM (w := w3.drew) hN4.stp.mods p0 HNB.out; have y1 := cellM (w := w3.drew) hN4.stp.mods p1 HNB.out; have y2 := cellM (w := w3.drew) hN4.stp.mods p2 HNB.out; have y3 := cellM (w := w3.drew) hN4.stp.mods x1 HNX.out; have z0 := cellM (w := w3.drew) hN4.stp.mods c0 HNE.out; have z1 := cellM (w := w3.drew) hN4.stp.mods c1 HNE.out; have z2 := cellM (w := w3.drew) hN4.stp.mods c2 HNE.out; have z3 := cellM (w := w3.drew) hN4.stp.mods c3 HNE.out)
              | fail)
          have HG4 := Lib.hid hG4
          have HN4 := Lib.hid (((HN1.out.trans HN2.out).trans (Nxt.ext HN2.out.env HN2.out.sub HM3.out.drew)).trans hN4)
          clear p0 p1 p2 x1 c0 c1 c2 c3 y0 y1 y2 y3 z0 z1 z2 z3 hG4 hN4
          generalize hva : valueA G en = r at hres
          have HVA := Lib.hid hva
          clear hva
          rcases r with vv | ⟨el, ek⟩
          · have hre : Ending.returned (.tuple #[.string vs, ev]) = .returned (.tuple #[.string vv, .nilIface]) := hres
            injection hre with hre
            simp only [Value.tuple.injEq, Array.mk.injEq, List.cons.injEq, Value.string.injEq, and_true] at hre
            obtain ⟨rfl, rfl⟩ := hre
            clear hres
            have HVF : Hid (lookA G root key = .inl (some vs)) := Lib.hid (by rw [HVE.out, HVA.out])
            go_wp2_with fail
            go_region_held3 (fun _ => True) (trivial)
              (first
                | (go_at_call 56; (with_reducible refine (wrap_nil _ _).mono ?_); rintro e w5 ⟨rfl, rfl⟩)
                | fail)
            all_goals
              go_wp2_with fail
              refine bodyPost_ret (v := .tuple #[.string vs, .bool true, .nilIface]) (by simp [results, Tryz.results57, go_sem]) rfl ?_
              exact ⟨P4, F4, HG4.out.at (Mods.refl _ w4).drew, HN4.out.trans (Nxt.ext HN4.out.env HN4.out.sub (Mods.refl _ w4).drew), by rw [HVF.out]; rfl⟩
          · obtain ⟨f, hre, hE⟩ := hres
            injection hre with hre
            simp only [Value.tuple.injEq, Array.mk.injEq, List.cons.injEq, Value.string.injEq, and_true] at hre
            obtain ⟨rfl, rfl⟩ := hre
            have HE := Lib.hid hE
            clear hE
            have HVF : Hid (lookA G root key = .inr (-1 :: el, ek)) := Lib.hid (by rw [HVE.out, HVA.out])
            go_wp2_with fail
            go_region_held3 (fun _ => True) (trivial)
              (first
                | (go_at_call 56; (with_reducible refine (wrap_any (HN4.out.env.mods (Mods.refl _ w4).drew) _ _ _ _ (HE.out.mods (Mods.refl _ w4).drew)).mono ?_); rintro e w5 ⟨f5, rfl, hE5, hm5⟩)
                | fail)
            all_goals
              have HE5 := Lib.hid hE5
              have HM5 := Lib.hid (((Mods.refl (fun _ => False) w4).drew).trans hm5)
              clear hE5 hm5
              go_wp2_with fail
              refine bodyPost_ret (v := .tuple #[.string ⟨#[]⟩, .bool false, faultV f5]) (by simp [results, Tryz.results57, go_sem]) rfl ?_
              exact ⟨P4, F4, HG4.out.at HM5.out, HN4.out.trans (Nxt.ext HN4.out.env HN4.out.sub HM5.out), by rw [HVF.out]; exact ⟨f5, rfl, HE5.out⟩⟩
      · obtain ⟨f, rfl, hE⟩ := hres
        have HE := Lib.hid hE
        clear hE
        have m2 : Ext w2 (w2.alloc (.cells #[.bool false, .slice none 0 0, .slice none 0 0, .slice none 0 0] 134)) := (Mods.refl _ w2).alloc _
        have HM2 := Lib.hid m2
        clear m2
        go_wp2_with fail
        refine (wrap_any (HN2.out.env.mods HM2.out.ext) _ _ _ _ (HE.out.mods HM2.out.ext)).mono ?_
        rintro e w3 ⟨f3, rfl, hE3, hm3⟩
        have HE3 := Lib.hid hE3
        have HM3 := Lib.hid (HM2.out.trans hm3)
        clear hE3 hm3
        go_wp2_with fail
        refine bodyPost_ret (v := .tuple #[.string ⟨#[]⟩, .bool false, faultV f3]) (by simp [results, Tryz.results57, go_sem]) rfl ?_
        exact ⟨P2, F2, HG2.out.at HM3.out, (HN1.out.trans HN2.out).trans (Nxt.ext HN2.out.env HN2.out.sub HM3.out), by rw [HV.out, HFA.out]; exact ⟨f3, rfl, HE3.out⟩⟩
end
end Go.Proofs.YtepafbokbfcbgaaGreatDoor
