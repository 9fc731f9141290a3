/- lookup.find. | ref07.Bytes. | Pages as a row of the call's own, each with its body. Over any program but for the types' numbers. | lookup.find, walked. -/
import Derived.Test.YtmgfneijcfjlfaaGreatDoorK28
import Derived.Test.YtmgfneijcfjlfaaGreatDoorK17
import Derived.Test.YtmgfneijcfjlfaaGreatDoorK26
import Derived.IntWalk
import Derived.Test.YtmgfneijcfjlfaaGreatDoorK20
namespace Go.Proofs.YtmgfneijcfjlfaaGreatDoor
open Go.RowKit
attribute [local go_sem ↓] Go.wp_at_zero Go.wp_at_succ
def encSt (x : Int × Nat) : List Value := [.int .i64 x.1, .int .i64 (x.2 : Int)]
theorem encSt_ok : EncOk encSt 2 := ⟨fun _ => rfl, by intro x u hu; simp [encSt] at hu; rcases hu with rfl | rfl <;> rfl⟩
theorem Tryz.mkSt : (Tryz.prog.info? 63).map (fun i => (i.zero, i.size, i.bytes)) = some (some (.agg #[.int .i64 0, .int .i64 0]), 2, 16) := by kernel_rfl
theorem Tryz.elSt : ElT Tryz.prog 50 63 (.agg #[.int .i64 0, .int .i64 0]) 2 16 := ⟨Tryz.underlying50, Tryz.mkSt, rfl, by decide, by decide⟩
theorem kid_cell {F2 : Nat → Prop} {w2 w4 : World} {b off : Nat} {l : List Int} (h : l = [] ∨ ∃ b' off', some (⟨b, off, none⟩ : Addr) = some ⟨b', off', none⟩ ∧ b' < w2.heap.size ∧ ¬ F2 b' ∧ ∀ i x, l[i]? = some x → ∀ j u, (encI x)[j]? = some u → w2.cell? ⟨b', off' + i * 1 + j, none⟩ = some u) (m : Mods F2 w2 w4) {k : Nat} (hk : k < l.length) {z : Int} (hz : z = l[k]) :
    w4.cell? ⟨b, off + k, none⟩ = some (.int .i64 z) := by
  obtain ⟨b', off', hbb, _, _, hc⟩ := Sl.at h m (fun _ _ h => h) k hk
  injection hbb with hbb
  injection hbb with h1 h2
  subst h1 h2
  have := hc 0 (.int .i64 l[k]) rfl
  rw [hz]
  simpa using this
/-- the steps and a leaf, or why there is none. -/
def FindRes (F : Nat → Prop) (ad : Nat → Addr) (w' : World) (r : (List (Int × Nat) × NodeA) ⊕ Err) (e : Ending) : Prop :=
  match r with
  | .inl (st, n) => ∃ sv ve vk vi, e = .returned (.tuple #[sv, .agg #[.bool n.leaf, ve, vk, vi], .nilIface]) ∧ Sl F w' 2 encSt sv st ∧ Sl F w' 4 encE ve n.entries ∧ Sl F w' 1 encS vk n.keys ∧ Sl F w' 1 encI vi n.kids
  | .inr (l, k) => ∃ f, e = .returned (.tuple #[.slice none 0 0, nodeZ, faultV f]) ∧ ErrC F ad w' (faultV f) l k
theorem findN_lt {n : NodeA} (hr : rightN n = true) (hl : n.leaf = false) (key : ByteArray) : (findN n key).1 < n.kids.length := by
  rw [findN_inner hl]
  have := (rightN_inner hr hl).2.1
  have h2 : kidAt key n.keys ≤ n.keys.length := List.findIdx_le_length
  simp only
  omega
/-- the results: a value, a struct in a variable, and another value. -/
theorem results_tmp_row_tmp {P : Program} {fn : Func} {p u q : Tmp} {ty : TypeId} (h : fn.results = #[.tmp q, .cell p ty, .tmp u]) (tmps : Array Value) (w : World) (g : Nat) (t : TypeId) (cs : Array Value) (d : TypeDesc)
    (hp : tmps.getD p undef = .pointer (some ⟨g, 0, none⟩)) (hg : Blk w g cs t)
    (hu : P.underlying ty = some d) (hd : (match d with | .struct _ | .array _ _ => true | _ => false) = true) (hi : (P.info? ty).map (·.size) = some cs.size) :
    (results fn tmps).run P w = .ok (.tuple #[tmps.getD q undef, .agg cs, tmps.getD u undef]) w := by
  have hg' : w.heap[g]? = some (.cells cs t (0, 0)) := hg
  have e : (results fn tmps).run P w = ((asAddr (tmps.getD p undef)).run P w).andThen fun a w₁ => ((loadVar ty a).run P w₁).andThen fun v w₂ => .ok (.tuple #[tmps.getD q undef, v, tmps.getD u undef]) w₂ := by
    simp only [results, h]
    simp [Sem.run_bind, Result.andThen]
  rw [e, hp]
  simp [asAddr, run_loadVar_row w g t ty cs (0, 0) d hg' hu hd hi]
section
variable {P P' P1 P2 F F' F1 F2 Q : Nat → Prop} {ad : Nat → Addr} {w w' wr w2 : World} {c s : Nat} {G : GA} {l : List Nat} {v v' : Value} {st st' : List (Int × Nat)} {gen : Nat}
theorem PgR.anti (h : PgR F w P c s G l) (hQ : ∀ k, Q k → F k) : PgR Q w P c s G l :=
  h.plus (Q := fun _ => False) (Mods.refl _ w) (fun _ _ f => f) (fun _ f => f.elim) (fun k _ hn hq => hn (hQ k hq))
/-- just the footprint is left of what was left alone besides. -/
theorem Nxt.least (n : Nxt P P' F F' ad w w') : Nxt P P' F (fun k => F k ∨ P' k) ad w w' :=
  ⟨n.stp, fun _ h => .inr h, fun _ h => .inl h, fun k hk h => h.elim id (fun h => n.oldF k hk (n.sub k h)), n.env.anti (fun k h => h.elim (n.grow k) (n.sub k))⟩
/-- while find looks. -/
structure FiS (F P : Nat → Prop) (ad : Nat → Addr) (w : World) (c s gen : Nat) (G : GA) (l : List Nat) (F1 P1 : Nat → Prop) (wr : World) (v : Value) (st : List (Int × Nat)) : Prop where
  pg : PgR F1 wr P1 c s G l
  nx : Nxt P P1 F F1 ad w wr
  row : LocR w F1 P1 wr 63 2 encSt v st
  box : Blk wr w.heap.size #[.pointer (some ⟨c, 0, none⟩), .pointer (some ⟨s, 0, none⟩), .int .u64 (gen : Int)] 34
  boxP : ¬ P1 w.heap.size
  res : Blk wr (w.heap.size + 1) #[.bool false, .slice none 0 0, .slice none 0 0, .slice none 0 0] 57
  resP : ¬ P1 (w.heap.size + 1)
  resF : F1 (w.heap.size + 1)
theorem FiS.nxt (h : FiS F P ad w c s gen G l F1 P1 wr v st) (n : Nxt P1 P2 F1 F2 ad wr w2) (g : PgR F2 w2 P2 c s G l) : FiS F P ad w c s gen G l F2 P2 w2 v st :=
  ⟨g, h.nx.trans n, h.row.nxt n, n.blk h.box h.boxP, n.not h.box.lt h.boxP, n.blk h.res h.resP, n.not h.res.lt h.resP, n.grow _ h.resF⟩
theorem FiS.ext (h : FiS F P ad w c s gen G l F1 P1 wr v st) (m : Ext wr w2) : FiS F P ad w c s gen G l F1 P1 w2 v st :=
  h.nxt (Nxt.ext h.nx.env h.nx.sub m) (h.pg.at m)
theorem FiS.app (h : FiS F P ad w c s gen G l F1 P1 wr v st) (ho : Own (fun _ => False) w2 w.heap.size 63 2 encSt v' st') (m : Mods (fun k => v.ownBlock = some k) wr w2) (hat : v'.ownBlock = v.ownBlock ∨ v'.ownBlock = some wr.heap.size) :
    FiS F P ad w c s gen G l (plusV F1 v') P1 w2 v' st' := by
  obtain ⟨n, r⟩ := LocR.app h.nx h.row ho m hat (Nat.le_refl _)
  exact ⟨h.pg.app h.row m hat (Nat.le_refl _), n, r, h.box.mods m (fun e => Own.notB h.row.1 h.box (by decide) _ e rfl), h.boxP, h.res.mods m (fun e => Own.notB h.row.1 h.res (by decide) _ e rfl), h.resP, .inl h.resF⟩
end
end Go.Proofs.YtmgfneijcfjlfaaGreatDoor
namespace Go.Proofs.YtmgfneijcfjlfaaGreatDoor
open Go.RowKit
attribute [local go_sem ↓] Go.wp_at_zero Go.wp_at_succ
/-- the numbers of a node fit their bytes. -/
def okB (n : NodeA) : Prop :=
  if n.leaf = true then n.entries.length < 65536 ∧ ∀ (k : Nat) (e : EntryA), n.entries[k]? = some e → e.key.size < 256 ∧ e.value.size < 256 ∧ 0 ≤ e.chain ∧ e.chain < 4294967296 ∧ 0 ≤ e.size ∧ e.size < 4294967296
  else n.kids.length = n.keys.length + 1 ∧ n.kids.length < 65536 ∧ (∀ (k : Nat) (s : ByteArray), n.keys[k]? = some s → s.size < 256) ∧ ∀ (k : Nat) (c : Int), n.kids[k]? = some c → 0 ≤ c ∧ c < 4294967296
theorem okB_right {n : NodeA} (h : rightN n = true) : okB n := by
  unfold okB
  cases hl : n.leaf with
  | true =>
    rw [if_pos rfl]
    refine ⟨by have := right_len hl h; omega, fun k e he => ?_⟩
    have h1 := right_entry hl h he
    unfold rightE at h1
    simp only [Bool.and_eq_true] at h1
    have h2 := (keyB_iff e.key).1 h1.1
    have h3 := h1.2
    split at h3
    · simp only [Bool.and_eq_true, decide_eq_true_eq] at h3; omega
    · simp only [Bool.and_eq_true, decide_eq_true_eq, kidB] at h3; omega
  | false =>
    rw [if_neg (by simp)]
    obtain ⟨g1, g2, g3⟩ := right_256 hl h
    exact ⟨g3, by omega, fun k s hs => right_keys hl h hs, fun k c hc => by have := right_kid hl h hc; omega⟩
section
variable {F : Nat → Prop} {w w' : World}
theorem Sl.zero (W : World) (a : Option Addr) : Sl (fun _ => False) W 1 encB (.slice a 0 0) ([] : List UInt8) := ⟨a, 0, rfl, Nat.le_refl _, by simp [maxLen], by simp, .inl rfl⟩
/-- bytes of the call's own. -/
structure ByS (w w1 : World) (n : NodeA) (ve vk vi v : Value) (l : List UInt8) : Prop where
  ext : Ext w w1
  own : Own (fun _ => False) w1 w.heap.size 5 1 encB v l
  box : Blk w1 w.heap.size #[.bool n.leaf, ve, vk, vi] 57
theorem ByS.next {w1 w2 : World} {n : NodeA} {ve vk vi v v' : Value} {l l' : List UInt8} (h : ByS w w1 n ve vk vi v l) (m : Ext w1 w2) (ho : Own (fun _ => False) w2 w1.heap.size 5 1 encB v' l') : ByS w w2 n ve vk vi v' l' :=
  ⟨h.ext.trans m, ho.rebase h.ext.size, h.box.ext m⟩
theorem ByS.sl {w1 : World} {n : NodeA} {ve vk vi v : Value} {l : List UInt8} (h : ByS w w1 n ve vk vi v l) (hl : l.length ≤ 100000) : Sl (fun _ => False) w1 1 encB v l := h.own.sl encB_ok.len (by omega)
set_option maxRecDepth 100000 in
set_option maxHeartbeats 2000000 in
theorem bytesL_any (n : NodeA) (hlf : n.leaf = true) (ve vk vi : Value) (hve : Sl F w 4 encE ve n.entries) (hok : okB n) (hlen : (bytesN n).length ≤ 100000) :
    Calls Tryz.prog 53 #[.agg #[.bool true, ve, vk, vi]] w fun e w' => ∃ v, e = .returned v ∧ Own (fun _ => False) w' w.heap.size 5 1 encB v (bytesN n) ∧ Ext w w' := by
  obtain ⟨ae, ce, rfl, he1, he2, he3, hee⟩ := hve
  unfold maxLen at he2
  unfold okB at hok
  rw [if_pos hlf] at hok
  have HEE := Lib.hid hee
  have HOK := Lib.hid hok
  have HLF := Lib.hid hlf
  have HLEN := Lib.hid hlen
  have HB0 : Hid (Blk ((w.alloc (.cells #[.bool true, .slice ae n.entries.length ce, vk, vi] 57)).alloc (.cells #[] 5)) w.heap.size #[.bool n.leaf, .slice ae n.entries.length ce, vk, vi] 57) := Lib.hid (by rw [hlf]; exact (Blk.new w _ _).alloc _)
  have h64 : n.entries.length < 65536 := hok.1
  clear hee hok hlf hlen
  go_enter Tryz.func53, Tryz.ntmps53
  go_wp2_with fail
  refine (num07_2 (F := fun _ => False) _ [] ⟨_, 0, rfl, Nat.le_refl _, by simp [maxLen], by simp, .inl rfl⟩ n.entries.length h64 (by simp)).mono ?_
  rintro e w1 ⟨v1, rfl, hO1, hm1⟩
  have HS1 : Hid (ByS w w1 n (.slice ae n.entries.length ce) vk vi v1 (leafPre n 0)) := Lib.hid (by
    rw [leafPre_zero]
    rw [List.nil_append] at hO1
    exact ⟨(((Mods.refl _ w).alloc _).alloc _).trans hm1, hO1.rebase (base' := w.heap.size) (by simp; omega), HB0.out.ext hm1⟩)
  clear hO1 hm1
  go_wp2_with fail
  go_loopg [3, 4] n.entries.length (fun m v3 v4 wr => ∃ (k : Nat), k + m = n.entries.length ∧ v4 = .int .i64 k ∧ Hid (ByS w wr n (.slice ae n.entries.length ce) vk vi v3 (leafPre n k)))
  case atStart => exact ⟨0, by omega, rfl, HS1⟩
  case round =>
    obtain ⟨k, hkm, rfl, HS⟩ := hrel
    have b1 := HS.out.box.cell (o := 1) (v := .slice ae n.entries.length ce) rfl
    by_cases hlt : k < n.entries.length
    · obtain ⟨b, off, rfl, _, _, hc⟩ := Sl.at HEE.out HS.out.ext (fun _ _ f => f.elim) k hlt
      have hen : n.entries[k]? = some n.entries[k] := List.getElem?_eq_getElem hlt
      have hpre := leafPre_step n hen
      have hpl : (leafPre n (k + 1)).length ≤ 100000 := Nat.le_trans (leafPre_len HLF.out (k + 1)) HLEN.out
      have hoe := HOK.out.2 k _ hen
      rw [hpre, List.length_append] at hpl
      clear hen
      generalize n.entries[k] = en at *
      obtain ⟨key, value, chain, size⟩ := en
      simp only at hoe
      obtain ⟨o1, o2, o3, o4, o5, o6⟩ := hoe
      have c0 := hc 0 (.string key) rfl
      simp only [Nat.add_zero] at c0
      have c1 := hc 1 (.string value) rfl
      have c2 := hc 2 (.int .i64 chain) rfl
      have c3 := hc 3 (.int .i64 size) rfl
      have HPRE := Lib.hid hpre
      generalize hq : leafPre n k = q at *
      have i0 : (0 : Int) ≤ (k : Int) := by omega
      have i1 : (k : Int) < (n.entries.length : Int) := by omega
      clear hc hpre hq
      by_cases hz : chain = 0
      · subst hz
        have HBY : Hid (bytesE ⟨key, value, 0, size⟩ = bytesT key ++ (leB 1 0 ++ bytesT value)) := Lib.hid rfl
        have HPL : Hid (q.length + (bytesT key ++ (leB 1 0 ++ bytesT value)).length ≤ 100000) := Lib.hid hpl
        clear hpl
        go_wp2_with fail
        refine (text07v _ q (HS.out.sl (by have := HPL.out; omega)) key o1 (by have := HPL.out; omega)).mono ?_
        rintro e w2 ⟨v2, rfl, hO2, hm2⟩
        have y0 := cellE hm2 b1
        have y1 := cellE hm2 c1
        have y2 := cellE hm2 c2
        have HS2 := Lib.hid (HS.out.next hm2 hO2)
        have HLA : Hid ((q ++ bytesT key).length ≤ 100000) := Lib.hid (by have h1 := HPL.out; simp only [List.length_append] at h1 ⊢; omega)
        have HLB : Hid ((q ++ bytesT key ++ leB 1 0).length ≤ 100000 ∧ (q ++ bytesT key ++ leB 1 0).length ≤ 140737488355328) := Lib.hid (by have h1 := HPL.out; simp only [List.length_append] at h1 ⊢; omega)
        clear hO2 hm2 b1 c0 c1 c2 c3
        go_wp2_with fail
        go_region_held3 (fun w' => w'.cell? ⟨w.heap.size, 1, none⟩ = some (.slice (some ⟨b, off, none⟩) n.entries.length ce) ∧ w'.cell? ⟨b, off + k * 4 + 1, none⟩ = some (.string value))
          (first | (with_reducible exact ⟨y0, y1⟩) | (with_reducible exact ⟨z0, z1⟩) | go_keep)
          (first
            | (go_at_call 89; (with_reducible refine (num07_01 _ (q ++ bytesT key) ((HS2.out.sl HLA.out).ext (Mods.refl _ _).drew) HLA.out).mono ?_); rintro e w3 ⟨v3, rfl, hO3, hm3⟩; have z0 := cellE hm3 y0; have z1 := cellE hm3 y1)
            | (go_at_call 90; (with_reducible refine (text07v _ _ (hO3.sl encB_ok.len HLB.out.2) value o2 HLB.out.1).mono ?_); rintro e w4 ⟨v4, rfl, hO4, hm4⟩; have z0 := cellE hm4 z0; have z1 := cellE hm4 z1)
            | fail)
        have HS4 := Lib.hid ((HS2.out.next ((Mods.refl _ w2).drew.trans hm3) hO3).next hm4 hO4)
        have HEQ : Hid (leafPre n (k + 1) = q ++ bytesT key ++ leB 1 0 ++ bytesT value) := Lib.hid (by rw [HPRE.out, HBY.out]; simp only [List.append_assoc])
        clear hO3 hm3 hO4 hm4 z0 z1 y0 y1 y2
        go_wp2_with fail
        go_roundg (gk - 1)
        case measure => omega
        case rel => exact ⟨k + 1, by omega, by go_num, Lib.hid (by rw [HEQ.out]; exact HS4.out)⟩
      · have hzb : (chain == 0) = false := beq_eq_false_iff_ne.2 hz
        obtain ⟨cn, rfl⟩ : ∃ cn : Nat, chain = (cn : Int) := ⟨chain.toNat, by omega⟩
        obtain ⟨sn, rfl⟩ : ∃ sn : Nat, size = (sn : Int) := ⟨size.toNat, by omega⟩
        have HBY : Hid (bytesE ⟨key, value, (cn : Int), (sn : Int)⟩ = bytesT key ++ (leB 1 1 ++ (leB 4 cn ++ leB 4 sn))) := Lib.hid (by unfold bytesE; simp only [if_neg hz, Int.toNat_natCast])
        have HPL : Hid (q.length + (bytesT key ++ (leB 1 1 ++ (leB 4 cn ++ leB 4 sn))).length ≤ 100000) := Lib.hid (by rw [← HBY.out]; exact hpl)
        have hcn : cn < 4294967296 := by omega
        have hsn : sn < 4294967296 := by omega
        clear hpl hz
        go_wp2_with fail
        refine (text07v _ q (HS.out.sl (by have := HPL.out; omega)) key o1 (by have := HPL.out; omega)).mono ?_
        rintro e w2 ⟨v2, rfl, hO2, hm2⟩
        have y0 := cellE hm2 b1
        have y1 := cellE hm2 c2
        have y2 := cellE hm2 c3
        have HS2 := Lib.hid (HS.out.next hm2 hO2)
        have HLA : Hid ((q ++ bytesT key).length ≤ 100000) := Lib.hid (by have h1 := HPL.out; simp only [List.length_append] at h1 ⊢; omega)
        have HLB : Hid ((q ++ bytesT key ++ leB 1 1 ++ leB 4 cn).length ≤ 100000 ∧ (q ++ bytesT key ++ leB 1 1 ++ leB 4 cn).length ≤ 140737488355328 ∧ (q ++ bytesT key ++ leB 1 1).length ≤ 100000 ∧ (q ++ bytesT key ++ leB 1 1).length ≤ 140737488355328) := Lib.hid (by have h1 := HPL.out; simp only [List.length_append] at h1 ⊢; omega)
        clear hO2 hm2 b1 c0 c1 c2 c3
        go_wp2_with fail
        go_region_held3 (fun w' => w'.cell? ⟨w.heap.size, 1, none⟩ = some (.slice (some ⟨b, off, none⟩) n.entries.length ce) ∧ w'.cell? ⟨b, off + k * 4 + 2, none⟩ = some (.int .i64 (cn : Int)) ∧ w'.cell? ⟨b, off + k * 4 + 3, none⟩ = some (.int .i64 (sn : Int)))
          (first | (with_reducible exact ⟨y0, y1, y2⟩) | (with_reducible exact ⟨z0, z1, z2⟩) | go_keep)
          (first
            | (go_at_call 89; (with_reducible refine (num07_11 _ (q ++ bytesT key) ((HS2.out.sl HLA.out).ext (Mods.refl _ _).drew) HLA.out).mono ?_); rintro e w3 ⟨v3, rfl, hO3, hm3⟩; have z0 := cellE hm3 y0; have z1 := cellE hm3 y1; have z2 := cellE hm3 y2)
            | (go_at_call 89; (with_reducible refine (num07_4 _ _ (hO3.sl encB_ok.len HLB.out.2.2.2) cn hcn HLB.out.2.2.1).mono ?_); rintro e w4 ⟨v4, rfl, hO4, hm4⟩; have z0 := cellE hm4 z0; have z1 := cellE hm4 z1; have z2 := cellE hm4 z2)
            | (go_at_call 89; (with_reducible refine (num07_4 _ _ (hO4.sl encB_ok.len HLB.out.2.1) sn hsn HLB.out.1).mono ?_); rintro e w5 ⟨v5, rfl, hO5, hm5⟩; have z0 := cellE hm5 z0; have z1 := cellE hm5 z1; have z2 := cellE hm5 z2)
            | fail)
        have HS4 := Lib.hid (((HS2.out.next ((Mods.refl _ w2).drew.trans hm3) hO3).next hm4 hO4).next hm5 hO5)
        have HEQ : Hid (leafPre n (k + 1) = q ++ bytesT key ++ leB 1 1 ++ leB 4 cn ++ leB 4 sn) := Lib.hid (by rw [HPRE.out, HBY.out]; simp only [List.append_assoc])
        clear hO3 hm3 hO4 hm4 hO5 hm5 z0 z1 z2 y0 y1 y2
        go_wp2_with fail
        go_roundg (gk - 1)
        case measure => omega
        case rel => exact ⟨k + 1, by omega, by go_num, Lib.hid (by rw [HEQ.out]; exact HS4.out)⟩
    · have hke : k = n.entries.length := by omega
      rw [leafPre_all HLF.out hke] at HS
      clear hke
      go_wp2_with fail
      go_ret
      exact ⟨_, rfl, HS.out.own, HS.out.ext⟩
set_option maxRecDepth 100000 in
set_option maxHeartbeats 2000000 in
theorem bytesI_any (n : NodeA) (hlf : n.leaf = false) (ve vk vi : Value) (hvk : Sl F w 1 encS vk n.keys) (hvi : Sl F w 1 encI vi n.kids) (hok : okB n) (hlen : (bytesN n).length ≤ 100000) :
    Calls Tryz.prog 53 #[.agg #[.bool false, ve, vk, vi]] w fun e w' => ∃ v, e = .returned v ∧ Own (fun _ => False) w' w.heap.size 5 1 encB v (bytesN n) ∧ Ext w w' := by
  obtain ⟨ak, ck, rfl, hk1, hk2, hk3, hkk⟩ := hvk
  obtain ⟨ai, ci, rfl, hi1, hi2, hi3, hii⟩ := hvi
  unfold maxLen at hk2 hi2
  unfold okB at hok
  rw [if_neg (by rw [hlf]; simp)] at hok
  obtain ⟨g1, g2, g3, g4⟩ := hok
  have HKK := Lib.hid hkk
  have HII := Lib.hid hii
  have HG1 := Lib.hid g1
  have HG3 := Lib.hid g3
  have HG4 := Lib.hid g4
  have HLF := Lib.hid hlf
  have HLEN := Lib.hid hlen
  have hkz : 0 < n.kids.length := by omega
  have HKL : Hid (n.keys.length + 1 = n.kids.length) := Lib.hid g1.symm
  obtain ⟨kb, koff, rfl, _, _, hc0⟩ := Sl.at HII.out (Mods.refl (fun _ => False) w) (fun _ _ f => f.elim) 0 hkz
  obtain ⟨z, hz⟩ : ∃ z : Nat, n.kids[0] = (z : Int) := ⟨n.kids[0].toNat, by have := g4 0 _ (List.getElem?_eq_getElem hkz); omega⟩
  have hz32 : z < 4294967296 := by have := g4 0 _ (List.getElem?_eq_getElem hkz); omega
  have HPZ : Hid (innerPre n 0 = leB 2 n.kids.length ++ leB 4 z) := Lib.hid (by rw [innerPre_zero, headD_at n.kids hkz, hz]; rfl)
  have d0 : w.cell? ⟨kb, koff, none⟩ = some (.int .i64 (z : Int)) := by
    have := hc0 0 _ rfl
    rw [hz] at this
    simpa using this
  have m0 : Ext w (w.alloc (.cells #[.bool false, ve, .slice ak n.keys.length ck, .slice (some ⟨kb, koff, none⟩) n.kids.length ci] 57)) := (Mods.refl _ w).alloc _
  have HB0 : Hid (Blk (w.alloc (.cells #[.bool false, ve, .slice ak n.keys.length ck, .slice (some ⟨kb, koff, none⟩) n.kids.length ci] 57)) w.heap.size #[.bool n.leaf, ve, .slice ak n.keys.length ck, .slice (some ⟨kb, koff, none⟩) n.kids.length ci] 57) := Lib.hid (by rw [hlf]; exact Blk.new w _ _)
  have d1 := cellE m0 d0
  have p3 := HB0.out.cell (o := 3) (v := .slice (some ⟨kb, koff, none⟩) n.kids.length ci) rfl
  have d2 := cellE ((Mods.refl _ _).alloc (.cells #[] 5)) d1
  have p3b := cellE ((Mods.refl _ _).alloc (.cells #[] 5)) p3
  have i0 : (0 : Int) < (n.kids.length : Int) := by omega
  have HM0 := Lib.hid m0
  clear hkk hii g1 g3 g4 hlf hlen hc0 hz d0 m0
  go_enter Tryz.func53, Tryz.ntmps53
  go_wp2_with fail
  go_region_held3 (fun w' => w'.cell? ⟨w.heap.size, 3, none⟩ = some (.slice (some ⟨kb, koff, none⟩) n.kids.length ci) ∧ w'.cell? ⟨kb, koff, none⟩ = some (.int .i64 (z : Int)))
    (first | (with_reducible exact ⟨p3, d1⟩) | (with_reducible exact ⟨p3b, d2⟩) | (with_reducible exact ⟨z0, z1⟩) | go_keep)
    (first
      | (go_at_call 89; (with_reducible refine (num07_2 (F := fun _ => False) _ [] (Sl.zero _ _) n.kids.length g2 (Nat.zero_le _)).mono ?_); rintro e w1 ⟨v1, rfl, hO1, hm1⟩; have z0 := cellE hm1 p3b; have z1 := cellE hm1 d2)
      | (go_at_call 89; (with_reducible refine (num07_4 _ _ (hO1.sl encB_ok.len (by simp [leB_length])) z hz32 (by simp [leB_length])).mono ?_); rintro e w2 ⟨v2, rfl, hO2, hm2⟩; have z0 := cellE hm2 z0; have z1 := cellE hm2 z1)
      | fail)
  have HS1 : Hid (ByS w w2 n ve (.slice ak n.keys.length ck) (.slice (some ⟨kb, koff, none⟩) n.kids.length ci) v2 (innerPre n 0)) := Lib.hid (by
    rw [HPZ.out]
    rw [List.nil_append] at hO2
    have hx : Ext w w2 := (((HM0.out.alloc (.cells #[] 5)).drew).trans hm1).trans hm2
    exact ⟨hx, hO2.rebase (base' := w.heap.size) (by have := hm1.size; simp at this; omega), HB0.out.ext ((((Mods.refl _ _).alloc (.cells #[] 5)).drew.trans hm1).trans hm2)⟩)
  clear hO1 hm1 hO2 hm2 z0 z1 d1 d2 p3 p3b
  go_wp2_with fail
  go_loopg [5, 6] n.keys.length (fun m v5 v6 wr => ∃ (k : Nat), k + m = n.keys.length ∧ v6 = .int .i64 k ∧ Hid (ByS w wr n ve (.slice ak n.keys.length ck) (.slice (some ⟨kb, koff, none⟩) n.kids.length ci) v5 (innerPre n k)))
  case atStart => exact ⟨0, by omega, rfl, HS1⟩
  case round =>
    obtain ⟨k, hkm, rfl, HS⟩ := hrel
    have p2 := HS.out.box.cell (o := 2) (v := .slice ak n.keys.length ck) rfl
    have p3 := HS.out.box.cell (o := 3) (v := .slice (some ⟨kb, koff, none⟩) n.kids.length ci) rfl
    by_cases hlt : k < n.keys.length
    · obtain ⟨b, off, rfl, _, _, hc⟩ := Sl.at HKK.out HS.out.ext (fun _ _ f => f.elim) k hlt
      have hlk : k + 1 < n.kids.length := by rw [← HKL.out]; omega
      have hen : n.keys[k]? = some n.keys[k] := List.getElem?_eq_getElem hlt
      have hkd : n.kids[k + 1]? = some n.kids[k + 1] := List.getElem?_eq_getElem hlk
      have hpre := innerPre_step n hen hkd
      have hks := HG3.out k _ hen
      have hkr := HG4.out (k + 1) _ hkd
      have hpl : (innerPre n (k + 1)).length ≤ 100000 := Nat.le_trans (innerPre_len HLF.out (k + 1)) HLEN.out
      rw [hpre, List.length_append] at hpl
      obtain ⟨y, hy⟩ : ∃ y : Nat, n.kids[k + 1] = (y : Int) := ⟨n.kids[k + 1].toNat, by omega⟩
      have d0 := kid_cell (F2 := F) HII.out (HS.out.ext.ext) hlk hy.symm
      obtain ⟨key, hkey⟩ : ∃ key, key = n.keys[k] := ⟨_, rfl⟩
      have c0 := hc 0 (.string key) (by rw [hkey]; rfl)
      simp only [Nat.add_zero, Nat.mul_one] at c0
      have HBY : Hid (innerPre n (k + 1) = innerPre n k ++ (bytesT key ++ leB 4 y)) := Lib.hid (by rw [hpre, hkey]; unfold bytesK; simp only [hy, Int.toNat_natCast])
      have HPL : Hid ((innerPre n k).length + (bytesT key ++ leB 4 y).length ≤ 100000) := Lib.hid (by
        have h1 := hpl
        unfold bytesK at h1
        simp only [hy, Int.toNat_natCast, ← hkey] at h1
        exact h1)
      rw [← hkey] at hks
      have hy32 : y < 4294967296 := by omega
      generalize innerPre n k = q at *
      have i0 : (0 : Int) ≤ (k : Int) := by omega
      have i1 : (k : Int) < (n.keys.length : Int) := by omega
      have i2 : (0 : Int) ≤ (k : Int) + 1 := by omega
      have i3 : (k : Int) + 1 < (n.kids.length : Int) := by omega
      have hw1 : IntKind.i64.wrap ((k : Int) + 1) = (k : Int) + 1 := IntWalk.i64_in _ (by omega)
      have hw2 : ((k : Int) + 1).toNat = k + 1 := by omega
      have HLA : Hid (q.length ≤ 100000) := Lib.hid (by have h1 := HPL.out; omega)
      have HLB : Hid ((q ++ bytesT key).length ≤ 100000 ∧ (q ++ bytesT key).length ≤ 140737488355328) := Lib.hid (by have h1 := HPL.out; simp only [List.length_append] at h1 ⊢; omega)
      clear hc hen hkd hpre hpl hkr hy hkey
      go_wp2_with fail
      go_region_held3 (fun w' => w'.cell? ⟨w.heap.size, 2, none⟩ = some (.slice (some ⟨b, off, none⟩) n.keys.length ck) ∧ w'.cell? ⟨w.heap.size, 3, none⟩ = some (.slice (some ⟨kb, koff, none⟩) n.kids.length ci) ∧ w'.cell? ⟨b, off + k, none⟩ = some (.string key) ∧ w'.cell? ⟨kb, koff + (k + 1), none⟩ = some (.int .i64 (y : Int)))
        (first | (with_reducible exact ⟨p2, p3, c0, d0⟩) | (with_reducible exact ⟨z0, z1, z2, z3⟩) | go_keep)
        (first
          | (go_at_call 90; (with_reducible refine (text07v _ q ((HS.out.sl HLA.out).ext (Mods.refl _ _).drew) key hks HLA.out).mono ?_); rintro e w3 ⟨v3, rfl, hO3, hm3⟩; have z0 := cellE hm3 p2; have z1 := cellE hm3 p3; have z2 := cellE hm3 c0; have z3 := cellE hm3 d0)
          | (go_at_call 89; (with_reducible refine (num07_4 _ _ (hO3.sl encB_ok.len HLB.out.2) y hy32 HLB.out.1).mono ?_); rintro e w4 ⟨v4, rfl, hO4, hm4⟩; have z0 := cellE hm4 z0; have z1 := cellE hm4 z1; have z2 := cellE hm4 z2; have z3 := cellE hm4 z3)
          | fail)
      have HS4 := Lib.hid ((HS.out.next ((Mods.refl _ wr).drew.trans hm3) hO3).next hm4 hO4)
      have HEQ : Hid (innerPre n (k + 1) = q ++ bytesT key ++ leB 4 y) := Lib.hid (by rw [HBY.out]; simp only [List.append_assoc])
      clear hO3 hm3 hO4 hm4 z0 z1 z2 z3 p2 p3 c0 d0 hw1 hw2
      go_wp2_with fail
      go_roundg (gk - 1)
      case measure => omega
      case rel => exact ⟨k + 1, by omega, by go_num, Lib.hid (by rw [HEQ.out]; exact HS4.out)⟩
    · have hke : k = n.keys.length := by omega
      rw [innerPre_all HLF.out HG1.out hke] at HS
      clear hke
      go_wp2_with fail
      go_ret
      exact ⟨_, rfl, HS.out.own, HS.out.ext⟩
theorem bytes07_any (n : NodeA) (ve vk vi : Value) (hve : Sl F w 4 encE ve n.entries) (hvk : Sl F w 1 encS vk n.keys) (hvi : Sl F w 1 encI vi n.kids) (hok : okB n) (hlen : (bytesN n).length ≤ 100000) :
    Calls Tryz.prog 53 #[.agg #[.bool n.leaf, ve, vk, vi]] w fun e w' => ∃ v, e = .returned v ∧ Own (fun _ => False) w' w.heap.size 5 1 encB v (bytesN n) ∧ Ext w w' := by
  cases hlf : n.leaf
  · exact bytesI_any n hlf ve vk vi hvk hvi hok hlen
  · exact bytesL_any n hlf ve vk vi hve hok hlen
end
end Go.Proofs.YtmgfneijcfjlfaaGreatDoor
namespace Go.Proofs.YtmgfneijcfjlfaaGreatDoor
open Go.RowKit
/-- a page, and where its body lies. -/
abbrev PgE := PageA × (Option Addr × Nat × Nat)
def svE (x : PgE) : Value := .slice x.2.1 x.2.2.1 x.2.2.2
def encPg (x : PgE) : List Value := [.int .i64 x.1.kind, .int .i64 x.1.id, .int .u64 (x.1.gen : Int), svE x]
theorem encPg_ok : EncOk encPg 4 := ⟨fun _ => rfl, by intro x u hu; simp [encPg, svE] at hu; rcases hu with rfl | rfl | rfl | rfl <;> rfl⟩
theorem Tryz.mkPg : (Tryz.prog.info? 75).map (fun i => (i.zero, i.size, i.bytes)) = some (some (.agg #[.int .i64 0, .int .i64 0, .int .u64 0, .slice none 0 0]), 4, 48) := by kernel_rfl
theorem Tryz.elPg : ElT Tryz.prog 25 75 (.agg #[.int .i64 0, .int .i64 0, .int .u64 0, .slice none 0 0]) 4 48 := ⟨Tryz.underlying25, Tryz.mkPg, rfl, by decide, by decide⟩
theorem flat_set {α : Type} {enc : α → List Value} {sz : Nat} (henc : ∀ x, (enc x).length = sz) : ∀ (l : List α) (i : Nat) (x x' : α) (j : Nat) (u : Value), l[i]? = some x → j < sz → (enc x).set j u = enc x' → (l.set i x').flatMap enc = (l.flatMap enc).set (i * sz + j) u
  | [], i, x, x', j, u, h, _, _ => by simp at h
  | y :: l, 0, x, x', j, u, h, hj, he => by
    simp at h; subst h
    rw [List.set_cons_zero, List.flatMap_cons, List.flatMap_cons, Nat.zero_mul, Nat.zero_add, ← he, List.set_append_left _ _ (by rw [henc]; exact hj)]
  | y :: l, i + 1, x, x', j, u, h, hj, he => by
    rw [List.set_cons_succ, List.flatMap_cons, List.flatMap_cons, flat_set henc l i x x' j u (by simpa using h) hj he, List.set_append_right _ _ (by rw [henc, Nat.add_mul]; omega), henc]
    congr 2
    rw [Nat.add_mul]; omega
/-- a cell of a row's element is stored. -/
theorem Own.set {α : Type} {F : Nat → Prop} {w : World} {base : Nat} {e : TypeId} {sz : Nat} {enc : α → List Value} {g n c : Nat} {l : List α} (h : Own F w base e sz enc (.slice (some ⟨g, 0, none⟩) n c) l) (henc : ∀ x, (enc x).length = sz) {i j : Nat} {x x' : α} {u : Value} (hx : l[i]? = some x) (hj : j < sz) (he : (enc x).set j u = enc x') :
    Own F (w.setCell ⟨g, i * sz + j, none⟩ u) base e sz enc (.slice (some ⟨g, 0, none⟩) n c) (l.set i x') := by
  refine ⟨?_, h.2⟩
  rcases h.1.2 with ⟨h0, _⟩ | ⟨g', cap, cur, h0, hb, hg, h1, h2, h3, h4⟩
  · cases h0
  · injection h0 with h0 h0n h0c
    injection h0 with h0
    injection h0 with h0
    subst h0 h0c h0n
    refine ⟨by rw [flatMap_len henc], .inr ⟨g, c, cur.setIfInBounds (i * sz + j) u, by rw [List.length_set], hb, heap_setCell_same w g _ cur e u hg, by rw [List.length_set]; exact h1, h2, by simpa using h3, ?_⟩⟩
    rw [flat_set henc l i x x' j u hx hj he, ← h4, List.length_set]
    simp [List.take_set]
structure PgsR (w : World) (base : Nat) (pv : Value) (xs : List PgE) : Prop where
  row : Own NoF w base 75 4 encPg pv xs
  body : ∀ x ∈ xs, Own NoF w base 5 1 encB (svE x) x.1.body
section
variable {w w' : World} {base : Nat} {pv pv' : Value} {xs ys : List PgE}
theorem PgsR.nil (w : World) (base : Nat) : PgsR w base (.slice none 0 0) [] := ⟨Own.nil _ _ _ _ _ _, fun x h => by simp at h⟩
theorem PgsR.ext (h : PgsR w base pv xs) (m : Ext w w') : PgsR w' base pv xs := ⟨h.row.ext m, fun x hx => (h.body x hx).ext m⟩
theorem PgsR.rebase (h : PgsR w base pv xs) {base' : Nat} (hb : base' ≤ base) : PgsR w base' pv xs := ⟨h.row.rebase hb, fun x hx => (h.body x hx).rebase hb⟩
theorem PgsR.mods (h : PgsR w base pv xs) {G : Nat → Prop} (m : Mods G w w') (hr : ∀ g, pv.ownBlock = some g → ¬ G g) (hb : ∀ x ∈ xs, ∀ g, (svE x).ownBlock = some g → ¬ G g) : PgsR w' base pv xs :=
  ⟨h.row.mods m hr, fun x hx => (h.body x hx).mods m (hb x hx)⟩
/-- another row of another type turns. -/
theorem PgsR.other {α : Type} {F : Nat → Prop} {b2 : Nat} {e : TypeId} {sz : Nat} {enc : α → List Value} {v : Value} {l : List α} (h : PgsR w base pv xs) (ho : Own F w b2 e sz enc v l) (m : Mods (fun k => v.ownBlock = some k) w w') (h1 : 75 ≠ e) (h2 : 5 ≠ e) : PgsR w' base pv xs :=
  h.mods m (fun g hg e2 => h.row.far ho h1 g hg e2) (fun x hx g hg e2 => (h.body x hx).far ho h2 g hg e2)
theorem PgsR.blk (h : PgsR w base pv xs) {B : Nat} {c : Array Value} {t : TypeId} (hB : Blk w B c t) (m : Mods (fun k => k = B) w w') (h1 : t ≠ 75) (h2 : t ≠ 5) : PgsR w' base pv xs :=
  h.mods m (fun g hg e => Own.notB h.row hB h1 g hg e) (fun x hx g hg e => Own.notB (h.body x hx) hB h2 g hg e)
theorem PgsR.app (h : PgsR w base pv xs) (m : Mods (fun k => pv.ownBlock = some k) w w') (ho : Own NoF w' base 75 4 encPg pv' (xs ++ ys)) (hy : ∀ y ∈ ys, Own NoF w base 5 1 encB (svE y) y.1.body) : PgsR w' base pv' (xs ++ ys) :=
  ⟨ho, fun x hx => by
    rcases List.mem_append.1 hx with hx | hx
    · exact (h.body x hx).mods m (fun g hg e => (h.body x hx).far h.row (by decide) g hg e)
    · exact (hy x hx).mods m (fun g hg e => (hy x hx).far h.row (by decide) g hg e)⟩
end
end Go.Proofs.YtmgfneijcfjlfaaGreatDoor
namespace Go.Proofs.YtmgfneijcfjlfaaGreatDoor
open Go.RowKit
attribute [local go_sem ↓] Go.wp_at_zero Go.wp_at_succ
section
variable {P P' P1 P2 F F' F1 F2 Q : Nat → Prop} {ad : Nat → Addr} {w w' wr w2 : World} {c s : Nat} {G : GA} {l : List Nat} {v v' : Value} {gen : Nat}
set_option maxRecDepth 100000 in
set_option maxHeartbeats 4000000 in
theorem find_any (hL : Env F ad w) (hP : ∀ k, P k → F k) (h : PgR F w P c s G l) (gen : Nat) (root : Int) (key : ByteArray) (hk : findOk G key 16 root) :
    Calls Tryz.prog 39 #[pgV c s gen, .int .i64 root, .string key] w (PgDone F P ad w c s G l (fun F' w' e => FindRes F' ad w' (findA G key 16 [] root) e)) := by
  have m0 : Ext w ((w.alloc (.cells #[.pointer (some ⟨c, 0, none⟩), .pointer (some ⟨s, 0, none⟩), .int .u64 (gen : Int)] 34)).alloc (.cells #[.bool false, .slice none 0 0, .slice none 0 0, .slice none 0 0] 57)) := ((Mods.refl _ w).alloc _).alloc _
  have HF0 : Hid (FiS F P ad w c s gen G l (fun k => F k ∨ k = w.heap.size + 1) P ((w.alloc (.cells #[.pointer (some ⟨c, 0, none⟩), .pointer (some ⟨s, 0, none⟩), .int .u64 (gen : Int)] 34)).alloc (.cells #[.bool false, .slice none 0 0, .slice none 0 0, .slice none 0 0] 57)) (.slice none 0 0) []) := Lib.hid
    ⟨h.plusNew hP m0 (fun k hk => by omega), Nxt.new hL hP m0 (fun k hk => by omega) (fun k hk => by simp; omega), LocR.nil _ _ _ _ _ _ _, (Blk.new w _ _).alloc _, fun hp => by have := h.bd _ hp; omega, heap_at (by simp), fun hp => by have := h.bd _ hp; omega, .inr rfl⟩
  have HK := Lib.hid hk
  have HFL := Lib.hid hL.lt
  clear hL hP h hk m0
  have HLD := fun (F1 P1 : Nat → Prop) (wr : World) (h1 : Env F1 ad wr) (h2 : ∀ k, P1 k → F1 k) (h3 : PgR F1 wr P1 c s G l) (id : Int) (h4 : G.knows id) => load_any h1 h2 h3 gen id h4
  unfold pgV at HLD ⊢
  have HLD := Lib.hid HLD
  go_enter Tryz.func39, Tryz.ntmps39
  go_wp2_with fail
  go_loopg [9, 10] 16 (fun m v9 v10 wr => ∃ (F1 P1 : Nat → Prop) (st : List (Int × Nat)) (id : Int), st.length + m = 16 ∧ v10 = .int .i64 id ∧ Hid (FiS F P ad w c s gen G l F1 P1 wr v9 st ∧ findA G key m st id = findA G key 16 [] root ∧ findOk G key m id))
  case atStart => exact ⟨_, P, [], root, rfl, rfl, Lib.hid ⟨HF0.out, rfl, HK.out⟩⟩
  case round =>
    obtain ⟨F1, P1, st, id, hm, rfl, HW⟩ := hrel
    obtain ⟨va, vc, rfl, hv1, hv2⟩ := HW.out.1.row.1.form
    unfold maxLen at hv2
    have hbb := HW.out.1.box.lt
    have hrr := HW.out.1.res.lt
    by_cases hlt : 0 < gk
    · obtain ⟨m, rfl⟩ : ∃ m, gk = m + 1 := ⟨gk - 1, by omega⟩
      have hb0 := HW.out.1.box.cell (o := 0) (v := .pointer (some ⟨c, 0, none⟩)) rfl
      have hb1 := HW.out.1.box.cell (o := 1) (v := .pointer (some ⟨s, 0, none⟩)) rfl
      have hb2 := HW.out.1.box.cell (o := 2) (v := .int .u64 (gen : Int)) rfl
      have hlen : (st.length : Int) < 16 := by omega
      go_wp2_with fail
      refine (HLD.out F1 P1 _ HW.out.1.nx.env HW.out.1.nx.sub HW.out.1.pg id HW.out.2.2.1).mono ?_
      rintro e w2 ⟨P2, F2, hG2, hN2, hres⟩
      have HW2 := Lib.hid (HW.out.1.nxt hN2 hG2)
      have HM2 := Lib.hid (hN2.subP HW.out.1.nx.sub)
      clear hG2 hN2 hb0 hb1 hb2
      generalize hld : G.load id = r at hres
      rcases r with n | ⟨el, ek⟩
      · obtain ⟨ve, vk, vi, rfl, hse, hsk, hsi⟩ := hres
        have hrn := GA.load_right hld
        obtain ⟨ea, ec, rfl, _, _, _, _⟩ := _root_.id hse
        obtain ⟨ka, kc, rfl, _, _, _, _⟩ := _root_.id hsk
        obtain ⟨ia, ic, rfl, _, hic, _, hii⟩ := _root_.id hsi
        unfold maxLen at hic
        obtain ⟨at_, isb, hfn⟩ : ∃ a b, findN n key = (a, b) := ⟨_, _, rfl⟩
        have HLD2 := Lib.hid hld
        have HFN := Lib.hid hfn
        have HRN := Lib.hid hrn
        have HII := Lib.hid hii
        have m2 : Ext w2 (w2.alloc (.cells #[.bool n.leaf, .slice ea n.entries.length ec, .slice ka n.keys.length kc, .slice ia n.kids.length ic] 57)) := (Mods.refl _ w2).alloc _
        have HFD := Lib.hid (findNode_any n key _ _ (.slice ia n.kids.length ic) (hse.ext m2) (hsk.ext m2))
        have HX2 := Lib.hid (Blk.new w2 #[.bool n.leaf, .slice ea n.entries.length ec, .slice ka n.keys.length kc, .slice ia n.kids.length ic] 57)
        have HSE := Lib.hid hse
        have HSK := Lib.hid hsk
        have HSI := Lib.hid hsi
        have HM2' := Lib.hid m2
        clear hld hfn hrn hii hse hsk hsi m2
        go_wp2_with fail
        refine (HFD.out).mono ?_
        rintro e w3 ⟨rfl, hm3⟩
        rw [HFN.out]
        have HW3 := Lib.hid (HW2.out.ext (HM2'.out.trans hm3))
        have HX3 := Lib.hid (HX2.out.ext hm3)
        have HM3 := Lib.hid (HM2'.out.trans hm3)
        have hb3 := HW3.out.box.lt
        clear hm3
        cases hlf : n.leaf
        · have HLF := Lib.hid hlf
          have hlt2 : at_ < n.kids.length := by have := findN_lt HRN.out hlf key; rw [HFN.out] at this; exact this
          have HLT2 := Lib.hid hlt2
          rw [hlf] at HX3
          clear hlf
          obtain ⟨kb, koff, rfl, _, _, _⟩ := Sl.at HII.out (Mods.refl F2 w2) (fun k _ h => h) at_ hlt2
          obtain ⟨kid, hkid⟩ : ∃ kid, kid = n.kids[at_] := ⟨_, rfl⟩
          have HKID := Lib.hid hkid
          clear hkid
          go_wp2_with (at_builtin; refine wpl_app2 Tryz.elSt encSt_ok rfl _ _ rfl w.heap.size _ _ st [(id, at_)] rfl rfl (HW3.out.row.1.ext ((Mods.refl _ _).alloc _)) (Sl.one (F := fun _ => False) (heap_at (by simp)) (fun f => f)) (by simp only [List.length_cons, List.length_nil]; omega) (by simp; omega) (fun f => f) ?_; simp only [List.length_cons, List.length_nil, Nat.zero_add]; intro a4 c4 w4 hO4 hm4 hat4; have hX4 := (HX3.out.alloc (.cells #[.int .i64 id, .int .i64 (at_ : Int)] 63)).mods hm4 (fun e => Own.notB HW3.out.row.1 HX3.out (by decide) _ e rfl); have x0 := hX4.cell (o := 0) (v := .bool false) rfl; have x3 := hX4.cell (o := 3) (v := .slice (some ⟨kb, koff, none⟩) n.kids.length ic) rfl; have hM4 : Mods F2 w2 w4 := ((HM3.out.alloc _).ext).trans (hm4.mono (fun k hk => (HW3.out.row.2 k hk).1)); have d0 : w4.cell? ⟨kb, koff + at_, none⟩ = some (.int .i64 kid) := kid_cell HII.out hM4 HLT2.out HKID.out)
          have HW4 := Lib.hid ((HW3.out.ext ((Mods.refl _ w3).alloc (.cells #[.int .i64 id, .int .i64 (at_ : Int)] 63))).app hO4 hm4 hat4)
          have HX4 := Lib.hid hX4
          have HM4 : Hid (Mods F2 w2 w4) := Lib.hid (((HM3.out.alloc _).ext).trans (hm4.mono (fun k hk => (HW3.out.row.2 k hk).1)))
          have HO4 := Lib.hid hO4
          clear hX4 hO4 hm4 hat4 hM4 d0 x0 x3
          have HFA : Hid (findA G key m (st ++ [(id, at_)]) kid = findA G key 16 [] root) := Lib.hid (by
            have h1 := HW.out.2.1
            rw [findA, HLD2.out] at h1
            simp only [HLF.out, Bool.false_eq_true, if_false, HFN.out] at h1
            rw [kids_at (List.getElem?_eq_getElem HLT2.out)] at h1
            rw [HKID.out]
            exact h1)
          have HOK : Hid (findOk G key m kid) := Lib.hid (by
            have h1 := HW.out.2.2.2 n HLD2.out HLF.out
            rw [HFN.out] at h1
            simp only [kids_at (List.getElem?_eq_getElem HLT2.out)] at h1
            rw [HKID.out]; exact h1)
          go_wp2_with fail
          go_roundg m
          case measure => omega
          case rel => exact ⟨_, P2, st ++ [(id, at_)], kid, by rw [List.length_append, List.length_cons, List.length_nil]; omega, rfl, Lib.hid ⟨HW4.out, HFA.out, HOK.out⟩⟩
        · have HLF := Lib.hid hlf
          rw [hlf] at HX3
          clear hlf
          go_wp2_with (at_builtin; refine wpl_app2 Tryz.elSt encSt_ok rfl _ _ rfl w.heap.size _ _ st [(id, at_)] rfl rfl (HW3.out.row.1.ext ((Mods.refl _ _).alloc _)) (Sl.one (F := fun _ => False) (heap_at (by simp)) (fun f => f)) (by simp only [List.length_cons, List.length_nil]; omega) (by simp; omega) (fun f => f) ?_; simp only [List.length_cons, List.length_nil, Nat.zero_add]; intro a4 c4 w4 hO4 hm4 hat4; have hX4 := (HX3.out.alloc (.cells #[.int .i64 id, .int .i64 (at_ : Int)] 63)).mods hm4 (fun e => Own.notB HW3.out.row.1 HX3.out (by decide) _ e rfl); have x0 := hX4.cell (o := 0) (v := .bool true) rfl; have x1 := hX4.cell (o := 1) (v := .slice ea n.entries.length ec) rfl; have x2 := hX4.cell (o := 2) (v := .slice ka n.keys.length kc) rfl; have x3 := hX4.cell (o := 3) (v := .slice ia n.kids.length ic) rfl; have hR := (HW3.out.res.alloc (.cells #[.int .i64 id, .int .i64 (at_ : Int)] 63)).mods hm4 (fun e => Own.notB HW3.out.row.1 HW3.out.res (by decide) _ e rfl); have r0 := hR.cell (o := 0) (v := .bool false) rfl; have r1 := hR.cell (o := 1) (v := .slice none 0 0) rfl; have r2 := hR.cell (o := 2) (v := .slice none 0 0) rfl; have r3 := hR.cell (o := 3) (v := .slice none 0 0) rfl; have rf := hR.frozen)
          have HW4 := Lib.hid ((HW3.out.ext ((Mods.refl _ w3).alloc (.cells #[.int .i64 id, .int .i64 (at_ : Int)] 63))).app hO4 hm4 hat4)
          have HX4 := Lib.hid hX4
          have HM4 : Hid (Mods F2 w2 w4) := Lib.hid (((HM3.out.alloc _).ext).trans (hm4.mono (fun k hk => (HW3.out.row.2 k hk).1)))
          have HO4 := Lib.hid hO4
          have hne : w2.heap.size ≠ w.heap.size + 1 := by have := HW2.out.res.lt; omega
          have hne2 : w.heap.size + 1 ≠ w2.heap.size := fun e => hne e.symm
          clear hX4 hO4 hm4 hat4 hR
          go_wp2_with fail
          go_region_held3 (fun w' => w'.cell? ⟨w2.heap.size, 0, none⟩ = some (.bool true) ∧ w'.cell? ⟨w2.heap.size, 1, none⟩ = some (.slice ea n.entries.length ec) ∧ w'.cell? ⟨w2.heap.size, 2, none⟩ = some (.slice ka n.keys.length kc) ∧ w'.cell? ⟨w2.heap.size, 3, none⟩ = some (.slice ia n.kids.length ic))
            (first | (with_reducible exact ⟨x0, x1, x2, x3⟩) | go_keep)
            (fail)
          have HFA : Hid (findA G key 16 [] root = .inl (st ++ [(id, at_)], n)) := Lib.hid (by
            rw [← HW.out.2.1, findA, HLD2.out]
            simp only [HLF.out, if_true, HFN.out])
          have HRB := Lib.hid ((HW4.out.res.set4 (.bool true) (.slice ea n.entries.length ec) (.slice ka n.keys.length kc) (.slice ia n.kids.length ic)).drew)
          have HMR := Lib.hid ((Mods.set4 (F := fun k => k = w.heap.size + 1) (Mods.refl _ w4) (R := w.heap.size + 1) (.inr rfl) (.bool true) (.slice ea n.entries.length ec) (.slice ka n.keys.length kc) (.slice ia n.kids.length ic)).drew)
          clear x0 x1 x2 x3 r0 r1 r2 r3 rf hne hne2
          go_wp2_with fail
          refine bodyPost_ret (results_tmp_row_tmp rfl _ _ (w.heap.size + 1) 57 #[.bool true, .slice ea n.entries.length ec, .slice ka n.keys.length kc, .slice ia n.kids.length ic] _ rfl HRB.out Tryz.underlying57 rfl Tryz.nodeSize) rfl ?_
          have HM5 := HM4.out.trans (HMR.out.mono (G := F2) (fun k hk => hk ▸ HW2.out.resF))
          have hn5 := HW4.out.nx.resD HMR.out (R := w.heap.size + 1) (by omega) HW4.out.resF
          have hq : ∀ k, (F k ∨ P2 k) → F2 k := fun k hk => hk.elim (HW2.out.nx.grow k) (HW2.out.nx.sub k)
          refine ⟨P2, fun k => F k ∨ P2 k, (HW4.out.pg.res HMR.out HW4.out.resP HW4.out.resF).anti (fun k hk => .inl (hq k hk)), hn5.least, ?_⟩
          rw [HFA.out]
          refine ⟨_, _, _, _, by rw [HLF.out]; rfl, ?_, (HSE.out.mods HM5).anti' hq, (HSK.out.mods HM5).anti' hq, (HSI.out.mods HM5).anti' hq⟩
          have ho := HW4.out.row.1.mods HMR.out (fun g hg e => Own.notB HW4.out.row.1 HW4.out.res (by decide) g hg e)
          have hs : Sl (fun k => F k ∨ P2 k) _ 2 encSt _ (st ++ [(id, at_)]) := Own.sl (F := fun k => F k ∨ P2 k) ⟨ho.1, fun g hg hf => hf.elim (fun hf => by have h1 := (HW4.out.row.1.lt g hg).1; have h2 := HFL.out g hf; omega) (fun hp => (HW4.out.row.2 g hg).2 hp)⟩ encSt_ok.len (by simp; omega)
          simpa using hs
      · obtain ⟨f, rfl, hE⟩ := hres
        have HE := Lib.hid hE
        have HFA : Hid (findA G key 16 [] root = .inr (el, ek)) := Lib.hid (by rw [← HW.out.2.1, findA, hld])
        clear hld hE
        have hR := HW2.out.res.alloc (.cells #[.bool false, .slice none 0 0, .slice none 0 0, .slice none 0 0] 57)
        have r0 := hR.cell (o := 0) (v := .bool false) rfl
        have r1 := hR.cell (o := 1) (v := .slice none 0 0) rfl
        have r2 := hR.cell (o := 2) (v := .slice none 0 0) rfl
        have r3 := hR.cell (o := 3) (v := .slice none 0 0) rfl
        have rf := hR.frozen
        have HRB := Lib.hid (hR.set4 (.bool false) (.slice none 0 0) (.slice none 0 0) (.slice none 0 0))
        have HMR := Lib.hid (Mods.set4 (F := fun k => k = w.heap.size + 1) (Mods.refl _ (w2.alloc (.cells #[.bool false, .slice none 0 0, .slice none 0 0, .slice none 0 0] 57))) (R := w.heap.size + 1) (.inr rfl) (.bool false) (.slice none 0 0) (.slice none 0 0) (.slice none 0 0))
        clear hR
        go_wp2_with fail
        refine bodyPost_ret (results_tmp_row_tmp rfl _ _ (w.heap.size + 1) 57 #[.bool false, .slice none 0 0, .slice none 0 0, .slice none 0 0] _ rfl HRB.out Tryz.underlying57 rfl Tryz.nodeSize) rfl ?_
        refine ⟨P2, F2, ((HW2.out.pg.at ((Mods.refl _ w2).alloc _))).res HMR.out HW2.out.resP HW2.out.resF, (HW2.out.nx.trans (Nxt.ext HW2.out.nx.env HW2.out.nx.sub ((Mods.refl _ w2).alloc _))).resD HMR.out (by omega) HW2.out.resF, ?_⟩
        rw [HFA.out]
        exact ⟨f, rfl, (HE.out.mods ((Mods.refl _ w2).alloc _)).mods (HMR.out.mono (fun k hk => hk ▸ HW2.out.resF))⟩
    · obtain rfl : gk = 0 := by omega
      have hlen : st.length = 16 := by omega
      have g5 := HW.out.1.nx.env.c5
      have HFA : Hid (findA G key 16 [] root = .inr ([pgOf id], 5)) := Lib.hid (by rw [← HW.out.2.1]; rfl)
      rw [hlen] at HW hv1 ⊢
      have HL16 := Lib.hid hlen
      clear hlen
      go_wp2_with fail
      refine (at_any HW.out.1.nx.env _ id _ [] 5 (.sent 5 (by decide) (by decide))).mono ?_
      rintro e w2 ⟨f, rfl, hE, hm2⟩
      have HE := Lib.hid hE
      have HW2 := Lib.hid (HW.out.1.ext hm2)
      have hR := HW2.out.res
      have r0 := hR.cell (o := 0) (v := .bool false) rfl
      have r1 := hR.cell (o := 1) (v := .slice none 0 0) rfl
      have r2 := hR.cell (o := 2) (v := .slice none 0 0) rfl
      have r3 := hR.cell (o := 3) (v := .slice none 0 0) rfl
      have rf := hR.frozen
      have HRB := Lib.hid (hR.set4 (.bool false) (.slice none 0 0) (.slice none 0 0) (.slice none 0 0))
      have HMR := Lib.hid (Mods.set4 (F := fun k => k = w.heap.size + 1) (Mods.refl _ w2) (R := w.heap.size + 1) (.inr rfl) (.bool false) (.slice none 0 0) (.slice none 0 0) (.slice none 0 0))
      clear hR hE hm2
      go_wp2_with fail
      refine bodyPost_ret (results_tmp_row_tmp rfl _ _ (w.heap.size + 1) 57 #[.bool false, .slice none 0 0, .slice none 0 0, .slice none 0 0] _ rfl HRB.out Tryz.underlying57 rfl Tryz.nodeSize) rfl ?_
      refine ⟨P1, F1, HW2.out.pg.res HMR.out HW2.out.resP HW2.out.resF, HW2.out.nx.resD HMR.out (by omega) HW2.out.resF, ?_⟩
      rw [HFA.out]
      exact ⟨f, rfl, HE.out.mods (HMR.out.mono (fun k hk => hk ▸ HW2.out.resF))⟩
end
end Go.Proofs.YtmgfneijcfjlfaaGreatDoor
