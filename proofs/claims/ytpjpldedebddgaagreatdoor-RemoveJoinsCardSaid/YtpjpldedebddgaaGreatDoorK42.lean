/- remove.both at texts and numbers; joined. | remove.Join: two nodes as one, or that they can't be. -/
import Derived.Test.YtpjpldedebddgaaGreatDoorK35
import Derived.Test.YtpjpldedebddgaaGreatDoorK31
import Derived.Deep.RegionLaw
namespace Go.Proofs.YtpjpldedebddgaaGreatDoor
open Go.RowKit
attribute [local go_sem ↓] Go.wp_at_zero Go.wp_at_succ
/-- two nodes as one, the key between. -/
def joinedA (a : NodeA) (key : ByteArray) (b : NodeA) : NodeA :=
  if a.leaf then ⟨true, a.entries ++ b.entries, [], []⟩ else ⟨false, [], (a.keys ++ [key]) ++ b.keys, a.kids ++ b.kids⟩
section
variable {P P' F F' H : Nat → Prop} {ad : Nat → Addr} {w w' : World} {c s : Nat} {G : GA} {l : List Nat}
set_option maxRecDepth 100000 in
theorem bothI_any (lv mv : Value) (L M : List Int) (hl : Sl F w 1 encI lv L) (hm : Sl H w 1 encI mv M) (hb : L.length ≤ 1000000) (hb2 : M.length ≤ 1000000) :
    Calls Tryz.prog 127 #[lv, mv] w fun e w' => ∃ a c, e = .returned (.slice a (L.length + M.length) c) ∧ Own (fun _ => False) w' w.heap.size 3 1 encI (.slice a (L.length + M.length) c) (L ++ M) ∧ Ext w w' := by
  have HL := Lib.hid hl
  have HM := Lib.hid hm
  have hO0 : Hid (Own (fun _ => False) (w.alloc (.cells #[] 3)) w.heap.size 3 1 encI (.slice (some ⟨w.heap.size, 0, none⟩) 0 0) ([] : List Int)) := Lib.hid (Own.empty (fun k f => f.elim) _ _ _ encI_ok.len)
  have hm0 : Hid (Ext w (w.alloc (.cells #[] 3))) := Lib.hid ((Mods.refl _ w).alloc _)
  obtain ⟨la, lc, rfl, l1, l2, l3, -⟩ := hl
  obtain ⟨ma, mc, rfl, m1, m2, m3, -⟩ := hm
  go_enter Tryz.func127, Tryz.ntmps127
  go_wp2_with (first
    | (at_builtin; refine wpl_app2 Tryz.elI encI_ok rfl _ _ rfl w.heap.size _ (.slice la L.length lc) [] L rfl rfl hO0.out (HL.out.ext hm0.out) (by simp only [List.length_nil]; omega) (by simp) (fun f => f) ?_; rw [List.nil_append, List.length_nil, Nat.zero_add]; intro a1 c1 w1 hO1 hm1 hat1; have HO1 := Lib.hid hO1; have HM1 : Hid (Ext w w1) := Lib.hid (Mods.past hm0.out (hm1.mono (fun k hk => (hO0.out.lt k hk).1))); clear hO1 hm1 hat1)
    | (at_builtin; refine wpl_app2 Tryz.elI encI_ok rfl _ _ rfl w.heap.size (.slice a1 L.length c1) (.slice ma M.length mc) L M rfl rfl HO1.out (HM.out.ext HM1.out) (by omega) HM1.out.size (fun f => f) ?_; intro a2 c2 w2 hO2 hm2 hat2; have HO2 := Lib.hid hO2; have HM2 : Hid (Ext w w2) := Lib.hid (Mods.past HM1.out (hm2.mono (fun k hk => (HO1.out.lt k hk).1))); clear hO2 hm2 hat2)
    | fail)
  go_ret
  exact ⟨_, _, rfl, HO2.out, HM2.out⟩
set_option maxRecDepth 100000 in
theorem bothS_any (lv mv : Value) (L M : List ByteArray) (hl : Sl F w 1 encS lv L) (hm : Sl H w 1 encS mv M) (hb : L.length ≤ 1000000) (hb2 : M.length ≤ 1000000) :
    Calls Tryz.prog 128 #[lv, mv] w fun e w' => ∃ a c, e = .returned (.slice a (L.length + M.length) c) ∧ Own (fun _ => False) w' w.heap.size 9 1 encS (.slice a (L.length + M.length) c) (L ++ M) ∧ Ext w w' := by
  have HL := Lib.hid hl
  have HM := Lib.hid hm
  have hO0 : Hid (Own (fun _ => False) (w.alloc (.cells #[] 9)) w.heap.size 9 1 encS (.slice (some ⟨w.heap.size, 0, none⟩) 0 0) ([] : List ByteArray)) := Lib.hid (Own.empty (fun k f => f.elim) _ _ _ encS_ok.len)
  have hm0 : Hid (Ext w (w.alloc (.cells #[] 9))) := Lib.hid ((Mods.refl _ w).alloc _)
  obtain ⟨la, lc, rfl, l1, l2, l3, -⟩ := hl
  obtain ⟨ma, mc, rfl, m1, m2, m3, -⟩ := hm
  go_enter Tryz.func128, Tryz.ntmps128
  go_wp2_with (first
    | (at_builtin; refine wpl_app2 Tryz.elS encS_ok rfl _ _ rfl w.heap.size _ (.slice la L.length lc) [] L rfl rfl hO0.out (HL.out.ext hm0.out) (by simp only [List.length_nil]; omega) (by simp) (fun f => f) ?_; rw [List.nil_append, List.length_nil, Nat.zero_add]; intro a1 c1 w1 hO1 hm1 hat1; have HO1 := Lib.hid hO1; have HM1 : Hid (Ext w w1) := Lib.hid (Mods.past hm0.out (hm1.mono (fun k hk => (hO0.out.lt k hk).1))); clear hO1 hm1 hat1)
    | (at_builtin; refine wpl_app2 Tryz.elS encS_ok rfl _ _ rfl w.heap.size (.slice a1 L.length c1) (.slice ma M.length mc) L M rfl rfl HO1.out (HM.out.ext HM1.out) (by omega) HM1.out.size (fun f => f) ?_; intro a2 c2 w2 hO2 hm2 hat2; have HO2 := Lib.hid hO2; have HM2 : Hid (Ext w w2) := Lib.hid (Mods.past HM1.out (hm2.mono (fun k hk => (HO1.out.lt k hk).1))); clear hO2 hm2 hat2)
    | fail)
  go_ret
  exact ⟨_, _, rfl, HO2.out, HM2.out⟩
set_option maxRecDepth 100000 in
set_option maxHeartbeats 1000000 in
theorem joinedL_any (a b : NodeA) (hla : a.leaf = true) (key : ByteArray) (ve vk vi ue uk ui : Value) (lb : Bool) (hve : Sl F w 4 encE ve a.entries) (hue : Sl H w 4 encE ue b.entries) (h1 : a.entries.length ≤ 1000000) (h2 : b.entries.length ≤ 1000000) :
    Calls Tryz.prog 80 #[.agg #[.bool true, ve, vk, vi], .string key, .agg #[.bool lb, ue, uk, ui]] w fun e w' => ∃ v, e = .returned v ∧ NodeO w' w.heap.size v (joinedA a key b) ∧ Ext w w' := by
  obtain ⟨w0, hw0⟩ : ∃ w0, w0 = ((w.alloc (.cells #[.bool true, ve, vk, vi] 26)).alloc (.cells #[.bool lb, ue, uk, ui] 26)).alloc (.cells nodeZc 26) := ⟨_, rfl⟩
  have m0 : Ext w w0 := by rw [hw0]; exact (((Mods.refl _ w).alloc _).alloc _).alloc _
  have HB := Lib.hid (bothE_any ve ue a.entries b.entries (hve.ext m0) (hue.ext m0) h1 h2)
  have HR : Hid (Blk w0 (w.heap.size + 1 + 1) nodeZc 26) := Lib.hid (by rw [hw0]; exact heap_at (by simp))
  have HM0 := Lib.hid m0
  have HW0 := Lib.hid hw0
  clear hve hue m0 hw0
  go_enter Tryz.func80, Tryz.ntmps80
  go_wp2_with fail
  rw [← HW0.out]
  refine HB.out.mono ?_
  rintro e w1 ⟨x, c1, rfl, hO, hm1⟩
  have HO := Lib.hid hO
  have hR1 := HR.out.ext hm1
  have hw1 : w.heap.size ≤ w0.heap.size := HM0.out.size
  have HR1 := Lib.hid hR1
  have HM1 := Lib.hid (HM0.out.trans hm1)
  have rf := hR1.frozen
  have r0 := hR1.cell (o := 0) rfl
  have r1 := hR1.cell (o := 1) rfl
  have r2 := hR1.cell (o := 2) rfl
  have r3 := hR1.cell (o := 3) rfl
  clear hO hm1 hR1
  go_wp2_with fail
  have mX := Mods.set4 (F := fun k => k = w.heap.size + 1 + 1) (Mods.refl _ w1) (R := w.heap.size + 1 + 1) (.inr rfl) (.bool true) (.slice x (a.entries.length + b.entries.length) c1) (.slice none 0 0) (.slice none 0 0)
  have bR := HR1.out.set4 (.bool true) (.slice x (a.entries.length + b.entries.length) c1) (.slice none 0 0) (.slice none 0 0)
  refine bodyPost_ret (results_cell_row rfl _ _ (w.heap.size + 1 + 1) 26 #[.bool true, .slice x (a.entries.length + b.entries.length) c1, .slice none 0 0, .slice none 0 0] (0, 0) _ rfl bR Tryz.underlying26 rfl Tryz.nodeSz) rfl ?_
  refine ⟨_, rfl, ?_, HM1.out.trans' mX (fun i hi e => by omega)⟩
  unfold joinedA
  rw [if_pos hla]
  exact ⟨_, _, _, rfl, (HO.out.mods mX (fun g hg e => (HO.out.notB HR1.out (by decide) g hg) e)).rebase hw1, Own.nil _ _ _ _ _ _, Own.nil _ _ _ _ _ _⟩
/-- an inner node was joined. -/
def JoinP (w : World) (R : Nat) (ks : List ByteArray) (is : List Int) (q ni : Nat) (wx : World) : Prop :=
  ∃ ka kc ia ic, Ext w wx ∧ Blk wx R #[.bool false, .slice none 0 0, .slice ka q kc, .slice ia ni ic] 26 ∧ Own (fun _ => False) wx w.heap.size 9 1 encS (.slice ka q kc) ks ∧ Own (fun _ => False) wx w.heap.size 3 1 encI (.slice ia ni ic) is
theorem row_at {wp wz : World} {key : ByteArray} (hm : Ext (wp.alloc (.cells #[.string key] 9)) wz) : Sl (fun _ => False) wz 1 encS (.slice (some ⟨wp.heap.size, 0, none⟩) 1 1) [key] :=
  (show Sl (fun _ => False) (wp.alloc (.cells #[.string key] 9)) 1 encS (.slice (some ⟨wp.heap.size, 0, none⟩) 1 1) [key] from Sl.one (Blk.new wp #[.string key] 9) (fun f => f)).ext hm
theorem row_at2 {wp wz : World} {key : ByteArray} (hm : Ext (wp.alloc (.cells #[.string key] 9)).drew wz) : Sl (fun _ => False) wz 1 encS (.slice (some ⟨wp.heap.size, 0, none⟩) 1 1) [key] :=
  row_at ((Mods.refl _ _).drew.trans hm)
theorem far_set4 {wz : World} {R k o : Nat} {a b c d v : Value} (hk : k < R) (h : wz.cell? ⟨k, o, none⟩ = some v) : ((((wz.setCell ⟨R, 0, none⟩ a).setCell ⟨R, 1, none⟩ b).setCell ⟨R, 2, none⟩ c).setCell ⟨R, 3, none⟩ d).cell? ⟨k, o, none⟩ = some v := by
  exact cellM (Mods.set4 (F := fun j => j = R) (Mods.refl _ wz) (R := R) (.inr rfl) a b c d) h (by intro e; omega)
theorem join_fin {w0 wz : World} {R : Nat} {ks : List ByteArray} {is : List Int} {q ni : Nat} {ka ia : Option Addr} {kc ic : Nat} (m0 : Ext w w0) (hR : w.heap.size ≤ R) (xm : Ext w0 wz) (bR : Blk w0 R nodeZc 26) (hk : Own (fun _ => False) wz w0.heap.size 9 1 encS (.slice ka q kc) ks) (hi : Own (fun _ => False) wz w0.heap.size 3 1 encI (.slice ia ni ic) is) :
    JoinP w R ks is q ni ((((wz.setCell ⟨R, 0, none⟩ (.bool false)).setCell ⟨R, 1, none⟩ (.slice none 0 0)).setCell ⟨R, 2, none⟩ (.slice ka q kc)).setCell ⟨R, 3, none⟩ (.slice ia ni ic)) := by
  have bz := bR.ext xm
  have mX := Mods.set4 (F := fun k => k = R) (Mods.refl _ wz) (R := R) (.inr rfl) (.bool false) (.slice none 0 0) (.slice ka q kc) (.slice ia ni ic)
  exact ⟨_, _, _, _, (m0.trans xm).trans' mX (fun i hi e => by omega), bz.set4 _ _ _ _, (hk.mods mX (fun g hg e => hk.notB bz (by decide) g hg e)).rebase m0.size, (hi.mods mX (fun g hg e => hi.notB bz (by decide) g hg e)).rebase m0.size⟩
set_option maxRecDepth 100000 in
set_option maxHeartbeats 4000000 in
theorem joinedI_any (a b : NodeA) (hla : a.leaf = false) (key : ByteArray) (ve vk vi ue uk ui : Value) (lb : Bool) (hvk : Sl F w 1 encS vk a.keys) (huk : Sl H w 1 encS uk b.keys) (hvi : Sl F w 1 encI vi a.kids) (hui : Sl H w 1 encI ui b.kids) (h1 : a.keys.length ≤ 999999) (h2 : b.keys.length ≤ 1000000) (h3 : a.kids.length ≤ 1000000) (h4 : b.kids.length ≤ 1000000) :
    Calls Tryz.prog 80 #[.agg #[.bool false, ve, vk, vi], .string key, .agg #[.bool lb, ue, uk, ui]] w fun e w' => ∃ v, e = .returned v ∧ NodeO w' w.heap.size v (joinedA a key b) ∧ Ext w w' := by
  obtain ⟨w0, hw0⟩ : ∃ w0, w0 = ((w.alloc (.cells #[.bool false, ve, vk, vi] 26)).alloc (.cells #[.bool lb, ue, uk, ui] 26)).alloc (.cells nodeZc 26) := ⟨_, rfl⟩
  have m0 : Ext w w0 := by rw [hw0]; exact (((Mods.refl _ w).alloc _).alloc _).alloc _
  have hz : w0.heap.size = w.heap.size + 3 := by rw [hw0]; simp
  have hA : Blk w0 w.heap.size #[.bool false, ve, vk, vi] 26 := by rw [hw0]; exact ((Blk.new w _ _).alloc _).alloc _
  have hB : Blk w0 (w.heap.size + 1) #[.bool lb, ue, uk, ui] 26 := by rw [hw0]; exact (show Blk ((w.alloc (.cells #[.bool false, ve, vk, vi] 26)).alloc (.cells #[.bool lb, ue, uk, ui] 26)) (w.heap.size + 1) _ 26 from heap_at (by simp)).alloc _
  have HK := Lib.hid (fun W (m : Ext w0 W) => by
    have := bothS_any vk (.slice none 0 0) a.keys [] (hvk.ext (m0.trans m)) (Sl.nil (fun _ => False) W 1 encS) (by omega) (by simp)
    simpa only [List.length_nil, Nat.add_zero, List.append_nil] using this)
  obtain ⟨q, hq⟩ : ∃ q, q = a.keys.length + 1 + b.keys.length := ⟨_, rfl⟩
  obtain ⟨ni, hni⟩ : ∃ ni, ni = a.kids.length + b.kids.length := ⟨_, rfl⟩
  have HI := Lib.hid (fun W (m : Ext w0 W) => by
    have := bothI_any vi ui a.kids b.kids (hvi.ext (m0.trans m)) (hui.ext (m0.trans m)) h3 h4
    rw [← hni] at this
    exact this)
  have HE := Lib.hid (fun W (v : Value) (m : Ext w0 W) (hv : Sl (fun _ => False) W 1 encS v (a.keys ++ [key])) => by
    have := bothS_any v uk (a.keys ++ [key]) b.keys hv (huk.ext (m0.trans m)) (by simp; omega) h2
    rw [List.length_append, List.length_cons, List.length_nil, Nat.zero_add, ← hq] at this
    exact this)
  have HR : Hid (Blk w0 (w.heap.size + 1 + 1) nodeZc 26) := Lib.hid (by rw [hw0]; exact heap_at (by simp))
  have n2 := hA.cell (o := 2) (v := vk) rfl
  have n3 := hA.cell (o := 3) (v := vi) rfl
  have k2 := hB.cell (o := 2) (v := uk) rfl
  have k3 := hB.cell (o := 3) (v := ui) rfl
  have HM0 := Lib.hid m0
  have HW0 := Lib.hid hw0
  have HLA := Lib.hid hla
  have HN2 := Lib.hid n2
  have HN3 := Lib.hid n3
  have HK2 := Lib.hid k2
  have HK3 := Lib.hid k3
  have HRZ : Hid (w.heap.size ≤ w.heap.size + 1 + 1) := Lib.hid (by omega)
  have HQ := Lib.hid hq
  have HNI := Lib.hid hni
  clear hvk huk hvi hui m0 hw0 hA hB hla h3 h4 hq hni hz
  go_enter Tryz.func80, Tryz.ntmps80
  go_wp2_with fail
  rw [← HW0.out]
  go_cut [] (fun wx => Hid (JoinP w (w.heap.size + 1 + 1) ((a.keys ++ [key]) ++ b.keys) (a.kids ++ b.kids) q ni wx))
  case first =>
    have xm := (Mods.refl (fun _ => False) w0).drew
    have hf1 : w.heap.size < w.heap.size + 1 + 1 := by omega
    have hf2 : w.heap.size + 1 < w.heap.size + 1 + 1 := by omega
    have n2b := fun o => cell_alloc (x := o) n2
    have n3b := fun o => cell_alloc (x := o) n3
    have k2b := fun o => cell_alloc (x := o) k2
    have k3b := fun o => cell_alloc (x := o) k3
    go_region_held3 (fun w' => w'.cell? ⟨w.heap.size, 2, none⟩ = some vk ∧ w'.cell? ⟨w.heap.size, 3, none⟩ = some vi ∧ w'.cell? ⟨w.heap.size + 1, 2, none⟩ = some uk ∧ w'.cell? ⟨w.heap.size + 1, 3, none⟩ = some ui)
      (first | (with_reducible exact ⟨n2, n3, k2, k3⟩) | (with_reducible exact ⟨n2b _, n3b _, k2b _, k3b _⟩) | (with_reducible exact ⟨far_set4 hf1 n2, far_set4 hf1 n3, far_set4 hf2 k2, far_set4 hf2 k3⟩) | go_keep)
      (first
        | (go_at_call 127; first | (with_reducible refine (HI.out _ xm).mono ?_; rintro e wz ⟨a1, c1, rfl, hOI, hmz⟩; (first | have hOK := hOK.ext hmz | skip); (first | have hC := hC.ext hmz | skip); have hOI := hOI.rebase (base' := w0.heap.size) xm.size; have xm := xm.trans hmz; have n2 := cellE xm HN2.out; have n3 := cellE xm HN3.out; have k2 := cellE xm HK2.out; have k3 := cellE xm HK3.out; have n2b := fun o => cell_alloc (x := o) n2; have n3b := fun o => cell_alloc (x := o) n3; have k2b := fun o => cell_alloc (x := o) k2; have k3b := fun o => cell_alloc (x := o) k3; have hR := HR.out.ext xm; have r0 := hR.cell (o := 0) rfl; have r1 := hR.cell (o := 1) rfl; have r2 := hR.cell (o := 2) rfl; have r3 := hR.cell (o := 3) rfl; have rf := hR.frozen) | (with_reducible refine (HI.out _ (xm.alloc _)).mono ?_; rintro e wz ⟨a1, c1, rfl, hOI, hmz⟩; (first | have hOK := hOK.ext (((Mods.refl _ _).alloc _).trans hmz) | skip); have hC := row_at hmz; have hOI := hOI.rebase (base' := w0.heap.size) (xm.alloc _).size; have xm := (xm.alloc _).trans hmz; have n2 := cellE xm HN2.out; have n3 := cellE xm HN3.out; have k2 := cellE xm HK2.out; have k3 := cellE xm HK3.out; have n2b := fun o => cell_alloc (x := o) n2; have n3b := fun o => cell_alloc (x := o) n3; have k2b := fun o => cell_alloc (x := o) k2; have k3b := fun o => cell_alloc (x := o) k3; have hR := HR.out.ext xm; have r0 := hR.cell (o := 0) rfl; have r1 := hR.cell (o := 1) rfl; have r2 := hR.cell (o := 2) rfl; have r3 := hR.cell (o := 3) rfl; have rf := hR.frozen) | (with_reducible refine (HI.out _ (((Mods.refl _ w0).alloc _).drew)).mono ?_; rintro e wz ⟨a1, c1, rfl, hOI, hmz⟩; have hC := row_at2 hmz; have xm := ((Mods.refl (fun _ => False) w0).alloc (.cells #[.string key] 9)).drew; have hOI := hOI.rebase (base' := w0.heap.size) xm.size; have xm := xm.trans hmz; have n2 := cellE xm HN2.out; have n3 := cellE xm HN3.out; have k2 := cellE xm HK2.out; have k3 := cellE xm HK3.out; have n2b := fun o => cell_alloc (x := o) n2; have n3b := fun o => cell_alloc (x := o) n3; have k2b := fun o => cell_alloc (x := o) k2; have k3b := fun o => cell_alloc (x := o) k3; have hR := HR.out.ext xm; have r0 := hR.cell (o := 0) rfl; have r1 := hR.cell (o := 1) rfl; have r2 := hR.cell (o := 2) rfl; have r3 := hR.cell (o := 3) rfl; have rf := hR.frozen))
        | (go_at_call 128; first | (with_reducible refine (HK.out _ xm).mono ?_; rintro e wz ⟨a2, c2, rfl, hOK, hmz⟩; (first | have hOI := hOI.ext hmz | skip); (first | have hC := hC.ext hmz | skip); have hOK := hOK.rebase (base' := w0.heap.size) xm.size; have xm := xm.trans hmz; have n2 := cellE xm HN2.out; have n3 := cellE xm HN3.out; have k2 := cellE xm HK2.out; have k3 := cellE xm HK3.out; have n2b := fun o => cell_alloc (x := o) n2; have n3b := fun o => cell_alloc (x := o) n3; have k2b := fun o => cell_alloc (x := o) k2; have k3b := fun o => cell_alloc (x := o) k3; have hR := HR.out.ext xm; have r0 := hR.cell (o := 0) rfl; have r1 := hR.cell (o := 1) rfl; have r2 := hR.cell (o := 2) rfl; have r3 := hR.cell (o := 3) rfl; have rf := hR.frozen) | (with_reducible refine (HK.out _ (xm.alloc _)).mono ?_; rintro e wz ⟨a2, c2, rfl, hOK, hmz⟩; (first | have hOI := hOI.ext (((Mods.refl _ _).alloc _).trans hmz) | skip); have hC := row_at hmz; have hOK := hOK.rebase (base' := w0.heap.size) (xm.alloc _).size; have xm := (xm.alloc _).trans hmz; have n2 := cellE xm HN2.out; have n3 := cellE xm HN3.out; have k2 := cellE xm HK2.out; have k3 := cellE xm HK3.out; have n2b := fun o => cell_alloc (x := o) n2; have n3b := fun o => cell_alloc (x := o) n3; have k2b := fun o => cell_alloc (x := o) k2; have k3b := fun o => cell_alloc (x := o) k3; have hR := HR.out.ext xm; have r0 := hR.cell (o := 0) rfl; have r1 := hR.cell (o := 1) rfl; have r2 := hR.cell (o := 2) rfl; have r3 := hR.cell (o := 3) rfl; have rf := hR.frozen) | (with_reducible refine (HE.out _ _ xm (hOK.sl encS_ok.len (by simp; omega))).mono ?_; rintro e wz ⟨a4, c4, rfl, hOL, hmz⟩; (first | have hOI := hOI.ext hmz | skip); have hOK := hOL.rebase (base' := w0.heap.size) xm.size; have xm := xm.trans hmz; have n2 := cellE xm HN2.out; have n3 := cellE xm HN3.out; have k2 := cellE xm HK2.out; have k3 := cellE xm HK3.out; have n2b := fun o => cell_alloc (x := o) n2; have n3b := fun o => cell_alloc (x := o) n3; have k2b := fun o => cell_alloc (x := o) k2; have k3b := fun o => cell_alloc (x := o) k3; have hR := HR.out.ext xm; have r0 := hR.cell (o := 0) rfl; have r1 := hR.cell (o := 1) rfl; have r2 := hR.cell (o := 2) rfl; have r3 := hR.cell (o := 3) rfl; have rf := hR.frozen) | (with_reducible refine (HK.out _ (((Mods.refl _ w0).alloc _).drew)).mono ?_; rintro e wz ⟨a2, c2, rfl, hOK, hmz⟩; have hC := row_at2 hmz; have xm := ((Mods.refl (fun _ => False) w0).alloc (.cells #[.string key] 9)).drew; have hOK := hOK.rebase (base' := w0.heap.size) xm.size; have xm := xm.trans hmz; have n2 := cellE xm HN2.out; have n3 := cellE xm HN3.out; have k2 := cellE xm HK2.out; have k3 := cellE xm HK3.out; have n2b := fun o => cell_alloc (x := o) n2; have n3b := fun o => cell_alloc (x := o) n3; have k2b := fun o => cell_alloc (x := o) k2; have k3b := fun o => cell_alloc (x := o) k3; have hR := HR.out.ext xm; have r0 := hR.cell (o := 0) rfl; have r1 := hR.cell (o := 1) rfl; have r2 := hR.cell (o := 2) rfl; have r3 := hR.cell (o := 3) rfl; have rf := hR.frozen))
        | (refine step_app2 Tryz.elS encS_ok (by rfl) _ _ (by rfl) w0.heap.size (.slice a2 a.keys.length c2) _ a.keys [key] (by rfl) (by rfl) hOK hC (by simp; omega) xm.size (fun f => f) ?_; simp only [List.length_cons, List.length_nil, Nat.zero_add]; intro a3 c3 wz hOL hmA hat; (first | have hOI := hOI.mods hmA (fun g hg e => Own.far hOI hOK (by decide) g hg e) | skip); have xm := Mods.past xm (hmA.mono (fun k hk => (hOK.lt k hk).1)); have hOK := hOL; have n2 := cellE xm HN2.out; have n3 := cellE xm HN3.out; have k2 := cellE xm HK2.out; have k3 := cellE xm HK3.out; have n2b := fun o => cell_alloc (x := o) n2; have n3b := fun o => cell_alloc (x := o) n3; have k2b := fun o => cell_alloc (x := o) k2; have k3b := fun o => cell_alloc (x := o) k3; have hR := HR.out.ext xm; have r0 := hR.cell (o := 0) rfl; have r1 := hR.cell (o := 1) rfl; have r2 := hR.cell (o := 2) rfl; have r3 := hR.cell (o := 3) rfl; have rf := hR.frozen)
        | (refine step_app2 Tryz.elS encS_ok (by rfl) _ _ (by rfl) w0.heap.size (.slice a2 a.keys.length c2) _ a.keys [key] (by rfl) (by rfl) (hOK.ext ((Mods.refl _ _).alloc _)) (Sl.one (F := fun _ => False) (heap_at (by simp)) (fun f => f)) (by simp; omega) (xm.alloc _).size (fun f => f) ?_; simp only [List.length_cons, List.length_nil, Nat.zero_add]; intro a3 c3 wz hOL hmA hat; (first | have hOI := (hOI.ext ((Mods.refl _ _).alloc _)).mods hmA (fun g hg e => Own.far hOI hOK (by decide) g hg e) | skip); have xm := Mods.past (xm.alloc _) (hmA.mono (fun k hk => (hOK.lt k hk).1)); have hOK := hOL; have n2 := cellE xm HN2.out; have n3 := cellE xm HN3.out; have k2 := cellE xm HK2.out; have k3 := cellE xm HK3.out; have n2b := fun o => cell_alloc (x := o) n2; have n3b := fun o => cell_alloc (x := o) n3; have k2b := fun o => cell_alloc (x := o) k2; have k3b := fun o => cell_alloc (x := o) k3; have hR := HR.out.ext xm; have r0 := hR.cell (o := 0) rfl; have r1 := hR.cell (o := 1) rfl; have r2 := hR.cell (o := 2) rfl; have r3 := hR.cell (o := 3) rfl; have rf := hR.frozen)
        | fail)
    all_goals
      go_wp2_with fail
      go_meet
      exact Lib.hid (join_fin HM0.out HRZ.out xm HR.out hOK hOI)
  obtain ⟨ka, kc, ia, ic, hm, bR, hk, hi⟩ := hcut.out
  go_wp2_with fail
  refine bodyPost_ret (results_cell_row rfl _ _ (w.heap.size + 1 + 1) 26 #[.bool false, .slice none 0 0, .slice ka q kc, .slice ia ni ic] (0, 0) _ rfl bR Tryz.underlying26 rfl Tryz.nodeSz) rfl ?_
  refine ⟨_, rfl, ?_, hm⟩
  unfold joinedA
  rw [if_neg (by rw [HLA.out]; simp)]
  exact ⟨_, _, _, rfl, Own.nil _ _ _ _ _ _, hk, hi⟩
end
end Go.Proofs.YtpjpldedebddgaaGreatDoor
namespace Go.Proofs.YtpjpldedebddgaaGreatDoor
open Go.RowKit
attribute [local go_sem ↓] Go.wp_at_zero Go.wp_at_succ
/-- two nodes as one, if they can be. -/
def joinO (a : NodeA) (key : ByteArray) (b : NodeA) : Option NodeA := if a.leaf = b.leaf ∧ rightN a = true ∧ rightN b = true ∧ rightN (joinedA a key b) = true then some (joinedA a key b) else none
def nodeZN : NodeA := ⟨false, [], [], []⟩
/-- what remove.Join tells. -/
def JoinR (w : World) (o : Option NodeA) (e : Ending) (w' : World) : Prop := ∃ v, e = .returned (.tuple #[v, .bool o.isSome]) ∧ NodeO w' w.heap.size v (o.getD nodeZN) ∧ Ext w w'
theorem right_lens {n : NodeA} (h : rightN n = true) : n.entries.length ≤ 65535 ∧ n.kids.length ≤ 256 ∧ n.keys.length ≤ 256 := by
  have hf := form_right h
  unfold formN at hf
  cases hl : n.leaf with
  | true =>
    rw [if_pos hl] at hf
    unfold rightN at h
    rw [if_pos hl] at h
    simp only [Bool.and_eq_true, decide_eq_true_eq] at h
    exact ⟨h.2, by rw [hf.2]; simp, by rw [hf.1]; simp⟩
  | false =>
    rw [if_neg (by rw [hl]; simp)] at hf
    have := right_256 hl h
    exact ⟨by rw [hf.1]; simp, by omega, by omega⟩
section
variable {P P' F F' H : Nat → Prop} {ad : Nat → Addr} {w w' : World} {c s : Nat} {G : GA} {l : List Nat}
theorem joined_any (a b : NodeA) (la : Bool) (hla : a.leaf = la) (ha : rightN a = true) (hb : rightN b = true) (key : ByteArray) (ve vk vi ue uk ui : Value) (lb : Bool) (hve : Sl F w 4 encE ve a.entries) (hvk : Sl F w 1 encS vk a.keys) (hvi : Sl F w 1 encI vi a.kids) (hue : Sl H w 4 encE ue b.entries) (huk : Sl H w 1 encS uk b.keys) (hui : Sl H w 1 encI ui b.kids) :
    Calls Tryz.prog 80 #[.agg #[.bool la, ve, vk, vi], .string key, .agg #[.bool lb, ue, uk, ui]] w fun e w' => ∃ v, e = .returned v ∧ NodeO w' w.heap.size v (joinedA a key b) ∧ Ext w w' := by
  have h1 := right_lens ha
  have h2 := right_lens hb
  cases la with
  | true => exact joinedL_any a b hla key ve vk vi ue uk ui lb hve hue (by omega) (by omega)
  | false => exact joinedI_any a b hla key ve vk vi ue uk ui lb hvk huk hvi hui (by omega) (by omega) (by omega) (by omega)
theorem join_done {w0 wx : World} {R : Nat} {n : NodeA} {x0 x1 x2 x3 : Value} (m0 : Ext w w0) (h : NodeO wx w.heap.size (.agg #[x0, x1, x2, x3]) n) (m : Ext w0 wx) (bR : Blk wx R nodeZc 26) (hR : w.heap.size ≤ R) :
    JoinR w (some n) (.returned (.tuple #[.agg #[x0, x1, x2, x3], .bool true])) ((((wx.setCell ⟨R, 0, none⟩ x0).setCell ⟨R, 1, none⟩ x1).setCell ⟨R, 2, none⟩ x2).setCell ⟨R, 3, none⟩ x3) := by
  have mX := Mods.set4 (F := fun k => k = R) (Mods.refl _ wx) (R := R) (.inr rfl) x0 x1 x2 x3
  obtain ⟨xe, xk, xi, hx, o1, o2, o3⟩ := h
  exact ⟨_, rfl, ⟨xe, xk, xi, hx, o1.mods mX (fun g hg e => o1.notB bR (by decide) g hg e), o2.mods mX (fun g hg e => o2.notB bR (by decide) g hg e), o3.mods mX (fun g hg e => o3.notB bR (by decide) g hg e)⟩, (m0.trans m).trans' mX (fun i hi e => by omega)⟩
set_option maxRecDepth 100000 in
set_option maxHeartbeats 2000000 in
theorem join_any (hL : Env F ad w) (a b : NodeA) (key : ByteArray) (ve vk vi ue uk ui : Value) (la lb : Bool) (hla : a.leaf = la) (hlb : b.leaf = lb) (hve : Sl F w 4 encE ve a.entries) (hvk : Sl F w 1 encS vk a.keys) (hvi : Sl F w 1 encI vi a.kids) (hue : Sl F w 4 encE ue b.entries) (huk : Sl F w 1 encS uk b.keys) (hui : Sl F w 1 encI ui b.kids) :
    Calls Tryz.prog 23 #[.agg #[.bool la, ve, vk, vi], .string key, .agg #[.bool lb, ue, uk, ui]] w (JoinR w (joinO a key b)) := by
  obtain ⟨w0, hw0⟩ : ∃ w0, w0 = ((w.alloc (.cells #[.bool la, ve, vk, vi] 26)).alloc (.cells #[.bool lb, ue, uk, ui] 26)).alloc (.cells nodeZc 26) := ⟨_, rfl⟩
  have m0 : Ext w w0 := by rw [hw0]; exact (((Mods.refl _ w).alloc _).alloc _).alloc _
  have hz : w0.heap.size = w.heap.size + 3 := by rw [hw0]; simp
  have hA : Blk w0 w.heap.size #[.bool la, ve, vk, vi] 26 := by rw [hw0]; exact ((Blk.new w _ _).alloc _).alloc _
  have hB : Blk w0 (w.heap.size + 1) #[.bool lb, ue, uk, ui] 26 := by rw [hw0]; exact (show Blk ((w.alloc (.cells #[.bool la, ve, vk, vi] 26)).alloc (.cells #[.bool lb, ue, uk, ui] 26)) (w.heap.size + 1) _ 26 from heap_at (by simp)).alloc _
  have HR : Hid (Blk w0 (w.heap.size + 1 + 1) nodeZc 26) := Lib.hid (by rw [hw0]; exact heap_at (by simp))
  have HCA := fun W (m : Ext w0 W) => nodeCheck_any (hL.mods (m0.trans m).ext) a ve vk vi (hve.ext (m0.trans m)) (hvk.ext (m0.trans m)) (hvi.ext (m0.trans m))
  have HCB := fun W (m : Ext w0 W) => nodeCheck_any (hL.mods (m0.trans m).ext) b ue uk ui (hue.ext (m0.trans m)) (huk.ext (m0.trans m)) (hui.ext (m0.trans m))
  rw [hla] at HCA
  rw [hlb] at HCB
  have HCA := Lib.hid HCA
  have HCB := Lib.hid HCB
  have HFAIL : Hid (∀ W, Ext w0 W → joinO a key b = none → JoinR w (joinO a key b) (.returned (.tuple #[.agg #[.bool false, .slice none 0 0, .slice none 0 0, .slice none 0 0], .bool false])) ((((W.setCell ⟨w.heap.size + 1 + 1, 0, none⟩ (.bool false)).setCell ⟨w.heap.size + 1 + 1, 1, none⟩ (.slice none 0 0)).setCell ⟨w.heap.size + 1 + 1, 2, none⟩ (.slice none 0 0)).setCell ⟨w.heap.size + 1 + 1, 3, none⟩ (.slice none 0 0))) := Lib.hid (fun W m hn => by
    rw [hn]
    exact ⟨_, rfl, ⟨_, _, _, rfl, Own.nil _ _ _ _ _ _, Own.nil _ _ _ _ _ _, Own.nil _ _ _ _ _ _⟩, Mods.set4 (m0.trans m) (.inl (by omega)) _ _ _ _⟩)
  have HRET : Hid (∀ W, Ext w0 W → ∀ (x0 x1 x2 x3 : Value), Blk ((((W.setCell ⟨w.heap.size + 1 + 1, 0, none⟩ x0).setCell ⟨w.heap.size + 1 + 1, 1, none⟩ x1).setCell ⟨w.heap.size + 1 + 1, 2, none⟩ x2).setCell ⟨w.heap.size + 1 + 1, 3, none⟩ x3) (w.heap.size + 1 + 1) #[x0, x1, x2, x3] 26) := Lib.hid (fun W m x0 x1 x2 x3 => (HR.out.ext m).set4 x0 x1 x2 x3)
  have HRF : Hid (∀ W, Ext w0 W → W.cell? ⟨w.heap.size + 1 + 1, 0, none⟩ = some (.bool false) ∧ W.cell? ⟨w.heap.size + 1 + 1, 1, none⟩ = some (.slice none 0 0) ∧ W.cell? ⟨w.heap.size + 1 + 1, 2, none⟩ = some (.slice none 0 0) ∧ W.cell? ⟨w.heap.size + 1 + 1, 3, none⟩ = some (.slice none 0 0)) := Lib.hid (fun W m => ⟨(HR.out.ext m).cell rfl, (HR.out.ext m).cell rfl, (HR.out.ext m).cell rfl, (HR.out.ext m).cell rfl⟩)
  have HAB : Hid (∀ W, Ext w0 W → Blk W w.heap.size #[.bool la, ve, vk, vi] 26 ∧ Blk W (w.heap.size + 1) #[.bool lb, ue, uk, ui] 26) := Lib.hid (fun W m => ⟨hA.ext m, hB.ext m⟩)
  have HJ := Lib.hid (fun (ha : rightN a = true) (hb : rightN b = true) W (m : Ext w0 W) => joined_any a b la hla ha hb key ve vk vi ue uk ui lb (hve.ext (m0.trans m)) (hvk.ext (m0.trans m)) (hvi.ext (m0.trans m)) (hue.ext (m0.trans m)) (huk.ext (m0.trans m)) (hui.ext (m0.trans m)))
  have HCN := Lib.hid (fun n W (m : Ext w0 W) (ve vk vi : Value) (h : Sl F W 4 encE ve n.entries) (h2 : Sl F W 1 encS vk n.keys) (h3 : Sl F W 1 encI vi n.kids) => nodeCheck_any (hL.mods (m0.trans m).ext) n ve vk vi h h2 h3)
  have HLT := Lib.hid hL.lt
  have HM0 := Lib.hid m0
  have HW0 := Lib.hid hw0
  have HLA := Lib.hid hla
  have HLB := Lib.hid hlb
  have hF0 := HR.out.frozen
  clear hL hla hlb hve hvk hvi hue huk hui m0 hz hA hB hw0
  by_cases hab : la = lb
  · subst hab
    have a0 := (HAB.out _ (Mods.refl _ _)).1.cell (o := 0) (v := .bool la) rfl
    have b0 := (HAB.out _ (Mods.refl _ _)).2.cell (o := 0) (v := .bool la) rfl
    go_enter Tryz.func23, Tryz.ntmps23
    go_wp2_with fail
    rw [← HW0.out]
    refine (HCA.out w0 (Mods.refl _ _)).mono ?_
    rintro e w1 ⟨ev, rfl, hev, hm1⟩
    cases hra : rightN a with
    | false =>
      unfold nodeCk at hev
      rw [hra, if_neg (by simp)] at hev
      obtain ⟨f, rfl, _⟩ := hev
      have hne : joinO a key b = none := by unfold joinO; rw [if_neg (fun h => by rw [hra] at h; simp at h)]
      have HNE := Lib.hid hne
      have hF1 := (HR.out.ext hm1).frozen
      obtain ⟨q0, q1, q2, q3⟩ := HRF.out w1 hm1
      have HM1 := Lib.hid hm1
      clear hm1 hne hra
      unfold faultV
      go_wp2_with fail
      refine bodyPost_ret (results_row_tmp rfl _ _ (w.heap.size + 1 + 1) 26 _ _ rfl (HRET.out w1 HM1.out _ _ _ _) Tryz.underlying26 rfl Tryz.nodeSz) rfl ?_
      exact HFAIL.out w1 HM1.out HNE.out
    | true =>
      unfold nodeCk at hev
      rw [hra, if_pos rfl] at hev
      obtain rfl : ev = .nilIface := hev
      have HRA := Lib.hid hra
      obtain ⟨ha1, hb1⟩ := HAB.out w1 hm1
      have b0 := hb1.cell (o := 0) (v := .bool la) rfl
      have b1 := hb1.cell (o := 1) (v := ue) rfl
      have b2 := hb1.cell (o := 2) (v := uk) rfl
      have b3 := hb1.cell (o := 3) (v := ui) rfl
      have HM1 := Lib.hid hm1
      clear hm1 hra ha1 hb1 a0
      go_wp2_with fail
      refine (HCB.out w1 HM1.out).mono ?_
      rintro e w2 ⟨ev, rfl, hev, hm2⟩
      have hm2 := HM1.out.trans hm2
      cases hrb : rightN b with
      | false =>
        unfold nodeCk at hev
        rw [hrb, if_neg (by simp)] at hev
        obtain ⟨f, rfl, _⟩ := hev
        have hne : joinO a key b = none := by unfold joinO; rw [if_neg (fun h => by rw [hrb] at h; simp at h)]
        have HNE := Lib.hid hne
        have hF1 := (HR.out.ext hm2).frozen
        obtain ⟨q0, q1, q2, q3⟩ := HRF.out w2 hm2
        have HM2 := Lib.hid hm2
        clear hm2 hne hrb b0 b1 b2 b3
        unfold faultV
        go_wp2_with fail
        refine bodyPost_ret (results_row_tmp rfl _ _ (w.heap.size + 1 + 1) 26 _ _ rfl (HRET.out w2 HM2.out _ _ _ _) Tryz.underlying26 rfl Tryz.nodeSz) rfl ?_
        exact HFAIL.out w2 HM2.out HNE.out
      | true =>
        unfold nodeCk at hev
        rw [hrb, if_pos rfl] at hev
        obtain rfl : ev = .nilIface := hev
        have HRB := Lib.hid hrb
        obtain ⟨ha1, hb1⟩ := HAB.out w2 hm2
        have a0 := ha1.cell (o := 0) (v := .bool la) rfl
        have a1 := ha1.cell (o := 1) (v := ve) rfl
        have a2 := ha1.cell (o := 2) (v := vk) rfl
        have a3 := ha1.cell (o := 3) (v := vi) rfl
        have b0 := hb1.cell (o := 0) (v := .bool la) rfl
        have b1 := hb1.cell (o := 1) (v := ue) rfl
        have b2 := hb1.cell (o := 2) (v := uk) rfl
        have b3 := hb1.cell (o := 3) (v := ui) rfl
        have HM2 := Lib.hid hm2
        clear hm2 hrb ha1 hb1
        go_wp2_with fail
        refine (HJ.out HRA.out HRB.out w2 HM2.out).mono ?_
        rintro e w3 ⟨v, rfl, hNO, hm3⟩
        obtain ⟨n, hn⟩ : ∃ n, n = joinedA a key b := ⟨_, rfl⟩
        rw [← hn] at hNO
        obtain ⟨xe, xk, xi, rfl, o1, o2, o3⟩ := hNO
        obtain ⟨xa, xc, rfl, _, _⟩ := o1.form
        obtain ⟨ya, yc, rfl, _, _⟩ := o2.form
        obtain ⟨za, zc, rfl, _, _⟩ := o3.form
        have hsz : w.heap.size ≤ w2.heap.size := by have h1 := HM0.out.size; have h2 := HM2.out.size; omega
        have hnl : n.entries.length ≤ 200000 ∧ n.keys.length ≤ 200000 ∧ n.kids.length ≤ 200000 := by
          have l1 := right_lens HRA.out
          have l2 := right_lens HRB.out
          rw [hn]
          unfold joinedA
          split <;> simp <;> omega
        obtain ⟨w4, hw4⟩ : ∃ w4, w4 = w3.alloc (.cells #[.bool n.leaf, .slice xa n.entries.length xc, .slice ya n.keys.length yc, .slice za n.kids.length zc] 26) := ⟨_, rfl⟩
        have m4 : Ext w3 w4 := by rw [hw4]; exact (Mods.refl _ w3).alloc _
        have hm4 := HM2.out.trans (hm3.trans m4)
        have s1 := (o1.ext m4).slF (F := F) (fun k hk => by have := HLT.out k hk; omega) encE_ok.len (by omega)
        have s2 := (o2.ext m4).slF (F := F) (fun k hk => by have := HLT.out k hk; omega) encS_ok.len (by omega)
        have s3 := (o3.ext m4).slF (F := F) (fun k hk => by have := HLT.out k hk; omega) encI_ok.len (by omega)
        have HCN := Lib.hid (HCN.out n w4 hm4 _ _ _ s1 s2 s3)
        have HNO : Hid (NodeO w4 w.heap.size (.agg #[.bool n.leaf, .slice xa n.entries.length xc, .slice ya n.keys.length yc, .slice za n.kids.length zc]) n) := Lib.hid ⟨_, _, _, rfl, (o1.ext m4).rebase hsz, (o2.ext m4).rebase hsz, (o3.ext m4).rebase hsz⟩
        have HM4 := Lib.hid hm4
        have HN := Lib.hid hn
        obtain ⟨nl, hnlf⟩ : ∃ nl, n.leaf = nl := ⟨_, rfl⟩
        rw [hnlf] at HCN HNO hw4 ⊢
        have HB4 : Hid (Blk w4 w3.heap.size #[.bool nl, .slice xa n.entries.length xc, .slice ya n.keys.length yc, .slice za n.kids.length zc] 26) := Lib.hid (by rw [hw4]; exact Blk.new w3 _ _)
        have HW4 := Lib.hid hw4
        clear s1 s2 s3 o1 o2 o3 m4 hm3 hm4 hw4 hn hnl a0 a1 a2 a3 b0 b1 b2 b3 hnlf
        go_wp2_with fail
        rw [← HW4.out]
        refine HCN.out.mono ?_
        rintro e w5 ⟨ev, rfl, hev, hm5⟩
        have hm6 := HM4.out.trans hm5
        cases hrn : rightN n with
        | false =>
          unfold nodeCk at hev
          rw [hrn, if_neg (by simp)] at hev
          obtain ⟨f, rfl, _⟩ := hev
          have hne : joinO a key b = none := by unfold joinO; rw [if_neg (fun h => by rw [← HN.out, hrn] at h; simp at h)]
          have HNE := Lib.hid hne
          have hF1 := (HR.out.ext hm6).frozen
          obtain ⟨q0, q1, q2, q3⟩ := HRF.out w5 hm6
          have HM5 := Lib.hid hm6
          clear hm5 hm6 hne hrn
          unfold faultV
          go_wp2_with fail
          refine bodyPost_ret (results_row_tmp rfl _ _ (w.heap.size + 1 + 1) 26 _ _ rfl (HRET.out w5 HM5.out _ _ _ _) Tryz.underlying26 rfl Tryz.nodeSz) rfl ?_
          exact HFAIL.out w5 HM5.out HNE.out
        | true =>
          unfold nodeCk at hev
          rw [hrn, if_pos rfl] at hev
          obtain rfl : ev = .nilIface := hev
          have hje : joinO a key b = some n := by unfold joinO; rw [if_pos ⟨by rw [HLA.out, HLB.out], HRA.out, HRB.out, by rw [← HN.out]; exact hrn⟩, ← HN.out]
          have HJE := Lib.hid hje
          have hF1 := (HR.out.ext hm6).frozen
          obtain ⟨q0, q1, q2, q3⟩ := HRF.out w5 hm6
          have hB5 := HB4.out.ext hm5
          have c0 := hB5.cell (o := 0) (v := .bool nl) rfl
          have c1 := hB5.cell (o := 1) (v := .slice xa n.entries.length xc) rfl
          have c2 := hB5.cell (o := 2) (v := .slice ya n.keys.length yc) rfl
          have c3 := hB5.cell (o := 3) (v := .slice za n.kids.length zc) rfl
          have HNO5 := Lib.hid (HNO.out.ext hm5)
          have HM5 := Lib.hid hm6
          clear hm5 hm6 hje hrn hB5
          go_wp2_with fail
          refine bodyPost_ret (results_row_tmp rfl _ _ (w.heap.size + 1 + 1) 26 _ _ rfl (HRET.out w5 HM5.out _ _ _ _) Tryz.underlying26 rfl Tryz.nodeSz) rfl ?_
          rw [HJE.out]
          exact join_done HM0.out HNO5.out HM5.out (HR.out.ext HM5.out) (by omega)
  · have hne : joinO a key b = none := by unfold joinO; rw [if_neg (fun h => hab (by rw [← HLA.out, ← HLB.out]; exact h.1))]
    have HNE := Lib.hid hne
    have hab2 : (la == lb) = false := by simpa using hab
    have a0 := (HAB.out _ (Mods.refl _ _)).1.cell (o := 0) (v := .bool la) rfl
    have b0 := (HAB.out _ (Mods.refl _ _)).2.cell (o := 0) (v := .bool lb) rfl
    go_enter Tryz.func23, Tryz.ntmps23
    go_wp2_with fail
    rw [← HW0.out]
    refine bodyPost_ret (results_row_tmp rfl _ _ (w.heap.size + 1 + 1) 26 _ _ rfl HR.out Tryz.underlying26 rfl Tryz.nodeSz) rfl ?_
    rw [HNE.out]
    exact ⟨_, rfl, ⟨_, _, _, rfl, Own.nil _ _ _ _ _ _, Own.nil _ _ _ _ _ _, Own.nil _ _ _ _ _ _⟩, HM0.out⟩
end
end Go.Proofs.YtpjpldedebddgaaGreatDoor
