/- node.Get: what stands while it reads. | insert.laid: a list with others in the place of some. | ref07.num, text, Bytes; ref07.Key. -/
import Derived.Test.YtpjpldedebddgaaGreatDoorK26
import Derived.Test.YtpjpldedebddgaaGreatDoorK25
import Derived.Test.YtpjpldedebddgaaGreatDoorK18
import Derived.Test.YtpjpldedebddgaaGreatDoorK23
import Derived.Test.YtpjpldedebddgaaGreatDoorK06
import Derived.Deep.RegionHeld3
namespace Go.Proofs.YtpjpldedebddgaaGreatDoor
open Go.RowKit
theorem Tryz.mkE : (Tryz.prog.info? 114).map (fun i => (i.zero, i.size, i.bytes)) = some (some (.agg #[.string ⟨#[]⟩, .string ⟨#[]⟩, .int .i64 0, .int .i64 0]), 4, 48) := by kernel_rfl
theorem Tryz.mkS : (Tryz.prog.info? 9).map (fun i => (i.zero, i.size, i.bytes)) = some (some (.string ⟨#[]⟩), 1, 16) := by kernel_rfl
theorem Tryz.elE : ElT Tryz.prog 22 114 (.agg #[.string ⟨#[]⟩, .string ⟨#[]⟩, .int .i64 0, .int .i64 0]) 4 48 := ⟨Tryz.underlying22, Tryz.mkE, rfl, by decide, by decide⟩
theorem Tryz.elS : ElT Tryz.prog 23 9 (.string ⟨#[]⟩) 1 16 := ⟨Tryz.underlying23, Tryz.mkS, rfl, by decide, by decide⟩
theorem encE_ok : EncOk encE 4 := ⟨fun _ => rfl, by intro x u hu; simp [encE] at hu; rcases hu with rfl | rfl | rfl | rfl <;> rfl⟩
theorem encS_ok : EncOk encS 1 := ⟨fun _ => rfl, by intro x u hu; simp [encS] at hu; subst hu; rfl⟩
/-- .. as a step of a region that draws. -/
theorem step_app2 {P : Program} {α : Type} {F G : Nat → Prop} {w : World} {t e : TypeId} {z : Value} {sz bytes : Nat} {enc : α → List Value} (T : ElT P t e z sz bytes) (E : EncOk enc sz)
    {ops : Array Oper} {o : Oper} {a : Act} {K : Act → World → Prop} {Q : Exit → Act → World → Prop} {X : Prop} (hgd : o.guard = none) (sx x : Operand)
    (ho : o.op = .call { callee := .builtin .append, args := #[sx, x], argTypes := #[t, t] })
    (base : Nat) (v s : Value) (l m : List α) (hv : a.eval sx = v) (hx : a.eval x = s) (hown : Own F w base e sz enc v l) (hs : Sl G w sz enc s m) (hb : (l.length + m.length) * bytes ≤ 140737488355328) (hbase : base ≤ w.heap.size) (hn : ¬ F w.heap.size)
    (h : ∀ a' c' w', Own F w' base e sz enc (.slice a' (l.length + m.length) c') (l ++ m) → Mods (fun k => v.ownBlock = some k) w w' →
      ((Value.slice a' (l.length + m.length) c').ownBlock = v.ownBlock ∨ (Value.slice a' (l.length + m.length) c').ownBlock = some w.heap.size) → K (a.put o.dst (.slice a' (l.length + m.length) c')) w') :
    if Region.wanted o (yielded ops a.tmps) = true then Oper.wp P o a w K Q else X := by
  have hw : Region.wanted o (yielded ops a.tmps) = true := by simp [Region.wanted, hgd]
  rw [if_pos hw]
  obtain ⟨i, hi, hz, hs1, hb1⟩ := info3 T.info
  obtain ⟨a', c', w', hr, h2, h3, h4⟩ := run_append_sl (P := P) (F := F) (G := G) (w := w) base t o.type e i z sz bytes T.under hi hz hs1 hb1 T.zs T.sz0 enc E.len E.one v s l m hown hs hb T.by0 hbase hn
  unfold Oper.wp execOp
  simp only [ho, resolve, invoke, builtin, Sem.run_bind, Sem.run_pure, Result.andThen_ok, List.map_toArray, List.map_cons, List.map_nil, hv, hx, hr]
  exact h a' c' w' h2 (Mods.of_grown h3) h4
theorem Own.far {α β : Type} {F G : Nat → Prop} {w : World} {base base' : Nat} {e e' : TypeId} {sz sz' : Nat} {enc : α → List Value} {enc' : β → List Value} {v v' : Value} {x : List α} {x' : List β} (h : Own F w base e sz enc v x) (h' : Own G w base' e' sz' enc' v' x') (hne : e ≠ e') : ∀ g, v.ownBlock = some g → v'.ownBlock ≠ some g := by
  intro g hg hg'
  rcases h'.1.2 with ⟨rfl, _⟩ | ⟨g', cap, cur, rfl, _, h2, _⟩
  · simp [Value.ownBlock] at hg'
  · simp [Value.ownBlock] at hg'
    subst hg'
    exact Own.notB h (B := g') (c := cur) (t := e') h2 hne.symm g' hg rfl
def GB (F : Nat → Prop) (w : World) : Nat → Prop := fun k => F k ∨ (w.heap.size ≤ k ∧ k < w.heap.size + 2)
def NoF : Nat → Prop := fun _ => False
/-- while node.Get reads. -/
structure GetS (F : Nat → Prop) (ad : Nat → Addr) (w wr : World) (lf : Bool) (bv : Value) (b : List UInt8) (r : RdA) (es : List EntryA) (ks : List ByteArray) (is : List Int) (ve vk vi s1 s2 s3 : Value) : Prop where
  ext : Ext w wr
  env0 : Env F ad w
  sl0 : Sl F w 1 encB bv b
  box : Blk wr (w.heap.size + 1) #[bv, .int .i64 r.at_, .bool r.bad] 327
  nd : Blk wr (w.heap.size + 1 + 1) #[.bool lf, s1, s2, s3] 26
  oe : Own NoF wr (w.heap.size + 3) 114 4 encE ve es
  ok : Own NoF wr (w.heap.size + 3) 9 1 encS vk ks
  oi : Own NoF wr (w.heap.size + 3) 3 1 encI vi is
  res : Blk wr w.heap.size #[.bool false, .slice none 0 0, .slice none 0 0, .slice none 0 0] 26
section
variable {F : Nat → Prop} {ad : Nat → Addr} {w wr w2 : World} {lf : Bool} {bv : Value} {b : List UInt8} {r r' : RdA} {es es' : List EntryA} {ks ks' : List ByteArray} {is is' : List Int} {ve vk vi s1 s2 s3 ve' vk' vi' : Value}
theorem GetS.base (h : GetS F ad w wr lf bv b r es ks is ve vk vi s1 s2 s3) : w.heap.size + 3 ≤ wr.heap.size := by have := h.nd.lt; omega
theorem GetS.env (h : GetS F ad w wr lf bv b r es ks is ve vk vi s1 s2 s3) : Env (GB F w) ad wr :=
  h.env0.step h.ext.ext (fun k hk hn hg => hg.elim hn (fun e => by omega)) (fun k hg => hg.elim (fun hf => Nat.lt_of_lt_of_le (h.env0.lt k hf) h.ext.size) (fun e => by have := h.base; omega))
theorem GetS.rd (h : GetS F ad w wr lf bv b r es ks is ve vk vi s1 s2 s3) : RdR (GB F w) wr (w.heap.size + 1) bv b r :=
  ⟨h.box, h.sl0.step h.ext.ext (fun k hk hn hg => hg.elim hn (fun e => by omega)), .inr ⟨by omega, by omega⟩⟩
/-- nothing old turns. -/
theorem GetS.step (h : GetS F ad w wr lf bv b r es ks is ve vk vi s1 s2 s3) (m : Ext wr w2) : GetS F ad w w2 lf bv b r es ks is ve vk vi s1 s2 s3 :=
  ⟨h.ext.trans m, h.env0, h.sl0, h.box.ext m, h.nd.ext m, h.oe.ext m, h.ok.ext m, h.oi.ext m, h.res.ext m⟩
theorem GetS.drew (h : GetS F ad w wr lf bv b r es ks is ve vk vi s1 s2 s3) : GetS F ad w wr.drew lf bv b r es ks is ve vk vi s1 s2 s3 := h.step (Mods.refl _ wr).drew
theorem GetS.read (h : GetS F ad w wr lf bv b r es ks is ve vk vi s1 s2 s3) (m : Mods (fun k => k = w.heap.size + 1) wr w2) (g : RdR (GB F w) w2 (w.heap.size + 1) bv b r') : GetS F ad w w2 lf bv b r' es ks is ve vk vi s1 s2 s3 :=
  ⟨Mods.past h.ext (m.mono (fun k (hk : k = w.heap.size + 1) => by omega)), h.env0, h.sl0, g.own, h.nd.mods m (by omega),
    h.oe.mods m (fun g hg => by have := h.oe.lt g hg; omega), h.ok.mods m (fun g hg => by have := h.ok.lt g hg; omega), h.oi.mods m (fun g hg => by have := h.oi.lt g hg; omega), h.res.mods m (by omega)⟩
/-- a row is appended to. -/
theorem GetS.row (h : GetS F ad w wr lf bv b r es ks is ve vk vi s1 s2 s3) {G : Nat → Prop} (hG : ∀ k, G k → w.heap.size + 3 ≤ k) (m : Mods G wr w2)
    (oe : Own NoF w2 (w.heap.size + 3) 114 4 encE ve' es') (ok : Own NoF w2 (w.heap.size + 3) 9 1 encS vk' ks') (oi : Own NoF w2 (w.heap.size + 3) 3 1 encI vi' is') : GetS F ad w w2 lf bv b r es' ks' is' ve' vk' vi' s1 s2 s3 := by
  have hn : ∀ k, k < w.heap.size + 3 → ¬ G k := fun k hk g => by have := hG k g; omega
  exact ⟨Mods.past h.ext (m.mono (fun k hk => by have := hG k hk; omega)), h.env0, h.sl0, h.box.mods m (hn _ (by omega)), h.nd.mods m (hn _ (by omega)), oe, ok, oi, h.res.mods m (hn _ (by omega))⟩
theorem GetS.appE (h : GetS F ad w wr lf bv b r es ks is ve vk vi s1 s2 s3) (m : Mods (fun k => ve.ownBlock = some k) wr w2) (oe : Own NoF w2 (w.heap.size + 3) 114 4 encE ve' es') : GetS F ad w w2 lf bv b r es' ks is ve' vk vi s1 s2 s3 :=
  h.row (fun k hk => (h.oe.lt k hk).1) m oe (h.ok.mods m (fun g hg e => h.ok.far h.oe (by decide) g hg e)) (h.oi.mods m (fun g hg e => h.oi.far h.oe (by decide) g hg e))
theorem GetS.appK (h : GetS F ad w wr lf bv b r es ks is ve vk vi s1 s2 s3) (m : Mods (fun k => vk.ownBlock = some k) wr w2) (ok : Own NoF w2 (w.heap.size + 3) 9 1 encS vk' ks') : GetS F ad w w2 lf bv b r es ks' is ve vk' vi s1 s2 s3 :=
  h.row (fun k hk => (h.ok.lt k hk).1) m (h.oe.mods m (fun g hg e => h.oe.far h.ok (by decide) g hg e)) ok (h.oi.mods m (fun g hg e => h.oi.far h.ok (by decide) g hg e))
theorem GetS.appI (h : GetS F ad w wr lf bv b r es ks is ve vk vi s1 s2 s3) (m : Mods (fun k => vi.ownBlock = some k) wr w2) (oi : Own NoF w2 (w.heap.size + 3) 3 1 encI vi' is') : GetS F ad w w2 lf bv b r es ks is' ve vk vi' s1 s2 s3 :=
  h.row (fun k hk => (h.oi.lt k hk).1) m (h.oe.mods m (fun g hg e => h.oe.far h.oi (by decide) g hg e)) (h.ok.mods m (fun g hg e => h.ok.far h.oi (by decide) g hg e)) oi
/-- another block of the call's turns. -/
theorem GetS.far (h : GetS F ad w wr lf bv b r es ks is ve vk vi s1 s2 s3) {X : Nat} (hX : w.heap.size + 3 ≤ X) (m : Mods (fun k => k = X) wr w2) (he : ve.ownBlock ≠ some X) (hk : vk.ownBlock ≠ some X) (hi : vi.ownBlock ≠ some X) : GetS F ad w w2 lf bv b r es ks is ve vk vi s1 s2 s3 :=
  h.row (G := fun k => k = X) (fun k hk => by omega) m (h.oe.mods m (fun g hg e => he (by rw [hg, e]))) (h.ok.mods m (fun g hg e => hk (by rw [hg, e]))) (h.oi.mods m (fun g hg e => hi (by rw [hg, e])))
theorem GetS.slE (h : GetS F ad w wr lf bv b r es ks is ve vk vi s1 s2 s3) {G : Nat → Prop} (hG : ∀ k, G k → k < w.heap.size + 3) (hl : es.length ≤ 140737488355328) : Sl G wr 4 encE ve es :=
  Own.sl (F := G) ⟨h.oe.1, fun g hg f => by have := h.oe.lt g hg; have := hG g f; omega⟩ encE_ok.len hl
theorem GetS.slK (h : GetS F ad w wr lf bv b r es ks is ve vk vi s1 s2 s3) {G : Nat → Prop} (hG : ∀ k, G k → k < w.heap.size + 3) (hl : ks.length ≤ 140737488355328) : Sl G wr 1 encS vk ks :=
  Own.sl (F := G) ⟨h.ok.1, fun g hg f => by have := h.ok.lt g hg; have := hG g f; omega⟩ encS_ok.len hl
theorem GetS.slI (h : GetS F ad w wr lf bv b r es ks is ve vk vi s1 s2 s3) {G : Nat → Prop} (hG : ∀ k, G k → k < w.heap.size + 3) (hl : is.length ≤ 140737488355328) : Sl G wr 1 encI vi is :=
  Own.sl (F := G) ⟨h.oi.1, fun g hg f => by have := h.oi.lt g hg; have := hG g f; omega⟩ encI_ok.len hl
theorem GetS.gb (h : GetS F ad w wr lf bv b r es ks is ve vk vi s1 s2 s3) : ∀ k, GB F w k → k < w.heap.size + 3 := fun k hk => hk.elim (fun hf => by have := h.env0.lt k hf; omega) (fun e => by omega)
theorem GetS.fb (h : GetS F ad w wr lf bv b r es ks is ve vk vi s1 s2 s3) : ∀ k, F k → k < w.heap.size + 3 := fun k hf => by have := h.env0.lt k hf; omega
/-- a field is stored. -/
theorem GetS.put (h : GetS F ad w wr lf bv b r es ks is ve vk vi s1 s2 s3) (i : Nat) (v t1 t2 t3 : Value) (e : (#[.bool lf, s1, s2, s3] : Array Value).setIfInBounds i v = #[.bool lf, t1, t2, t3]) : GetS F ad w (wr.setCell ⟨w.heap.size + 1 + 1, i, none⟩ v) lf bv b r es ks is ve vk vi t1 t2 t3 := by
  have m : Mods (fun k => k = w.heap.size + 1 + 1) wr (wr.setCell ⟨w.heap.size + 1 + 1, i, none⟩ v) := Mods.at _ wr _ i v rfl
  have hn := h.nd.set i v
  rw [e] at hn
  exact ⟨Mods.past h.ext (m.mono (fun k (hk : k = w.heap.size + 1 + 1) => by omega)), h.env0, h.sl0, h.box.mods m (by omega), hn,
    h.oe.mods m (fun g hg => by have := h.oe.lt g hg; omega), h.ok.mods m (fun g hg => by have := h.ok.lt g hg; omega), h.oi.mods m (fun g hg => by have := h.oi.lt g hg; omega), h.res.mods m (by omega)⟩
theorem GetS.text (h : GetS F ad w wr lf bv b r es ks is ve vk vi s1 s2 s3) (h0 : 0 ≤ r.at_) (h1 : r.at_ ≤ 1000000000000) (s : ByteArray) (hx : rdText b r = (s, r')) :
    Calls Tryz.prog 246 #[.pointer (some ⟨w.heap.size + 1, 0, none⟩)] wr fun e w' => e = .returned (.string s) ∧ GetS F ad w w' lf bv b r' es ks is ve vk vi s1 s2 s3 ∧ Mods (fun k => k = w.heap.size + 1) wr w' := by
  have := rdText_any h.env h.rd h0 h1
  rw [hx] at this
  exact this.mono fun e w' ⟨a1, a2, a3⟩ => ⟨a1, h.read a3 a2, a3⟩
theorem GetS.num (h : GetS F ad w wr lf bv b r es ks is ve vk vi s1 s2 s3) (W : Nat) (hW : W = 1 ∨ W = 2 ∨ W = 4) (h0 : 0 ≤ r.at_) (h1 : r.at_ ≤ 1000000000000) (n : Nat) (hx : rdNum b r W = (n, r')) :
    Calls Tryz.prog 245 #[.pointer (some ⟨w.heap.size + 1, 0, none⟩), .int .i64 (W : Int)] wr fun e w' => e = .returned (.int .i64 (n : Int)) ∧ GetS F ad w w' lf bv b r' es ks is ve vk vi s1 s2 s3 ∧ Mods (fun k => k = w.heap.size + 1) wr w' :=
  (rdNum_to h.env h.rd W hW h0 h1 n r' hx).mono fun _ _ ⟨a1, a2, a3⟩ => ⟨a1, h.read a3 a2, a3⟩
end
end Go.Proofs.YtpjpldedebddgaaGreatDoor
namespace Go.Proofs.YtpjpldedebddgaaGreatDoor
open Go.RowKit
theorem Sl.slc {α : Type} {F : Nat → Prop} {w : World} {sz : Nat} {enc : α → List Value} {a : Option Addr} {n c : Nat} {l : List α} (h : Sl F w sz enc (.slice a n c) l) (i j : Nat) (hij : i ≤ j) (hj : j ≤ n) :
    Sl F w sz enc (.slice (if c = i then a else a.map (·.add (i * sz))) (j - i) (c - i)) ((l.drop i).take (j - i)) := by
  obtain ⟨a', cap, he, h1, h2, h3, h4⟩ := h
  simp only [Value.slice.injEq] at he
  obtain ⟨rfl, rfl, rfl⟩ := he
  have hlen : ((l.drop i).take (j - i)).length = j - i := by simp [List.length_take, List.length_drop]; omega
  refine ⟨_, c - i, by rw [hlen], by rw [hlen]; omega, by omega, by rw [hlen]; omega, ?_⟩
  rcases h4 with rfl | ⟨b, off, rfl, hb, hF, hc⟩
  · exact .inl (by simp)
  · by_cases hz : c = i
    · exact .inl (List.eq_nil_of_length_eq_zero (by rw [hlen]; omega))
    · refine .inr ⟨b, off + i * sz, ?_, hb, hF, fun k x hk q u hu => ?_⟩
      · rw [if_neg hz]
        simp only [Option.map_some, Addr.add]
        by_cases h0 : i * sz = 0
        · rw [if_pos h0, h0]; rfl
        · rw [if_neg h0]
      · have hk1 : k < j - i := by
          have := (List.getElem?_eq_some_iff.1 hk).1
          rwa [hlen] at this
        rw [List.getElem?_take_of_lt hk1, List.getElem?_drop] at hk
        have := hc (i + k) x hk q u hu
        rw [← this]
        congr 2
        rw [Nat.add_mul]; omega
theorem Sl.tail_ {α : Type} {F : Nat → Prop} {w : World} {sz : Nat} {enc : α → List Value} {a : Option Addr} {n c : Nat} {l : List α} (h : Sl F w sz enc (.slice a n c) l) (i : Nat) (hi : i ≤ n) :
    Sl F w sz enc (.slice (if c = i then a else a.map (·.add (i * sz))) (n - i) (c - i)) (l.drop i) := by
  have := h.slc i n hi (Nat.le_refl _)
  obtain ⟨a', cap, he, -⟩ := _root_.id h
  simp only [Value.slice.injEq] at he
  rw [he.2.1] at this ⊢
  rwa [List.take_of_length_le (by simp)] at this
section
variable {F H : Nat → Prop} {w w' : World}
set_option maxRecDepth 100000 in
theorem laidE_any (lv mv : Value) (L M : List EntryA) (hl : Sl F w 4 encE lv L) (hm : Sl H w 4 encE mv M) (i many : Nat) (h1 : i + many ≤ L.length) (hb : L.length ≤ 1000000) (hb2 : M.length ≤ 1000000) :
    Calls Tryz.prog 121 #[lv, .int .i64 (i : Int), .int .i64 (many : Int), mv] w fun e w' => ∃ v, e = .returned v ∧ Own (fun _ => False) w' w.heap.size 114 4 encE v (L.take i ++ M ++ L.drop (i + many)) ∧ Ext w w' := by
  obtain ⟨la, lc, rfl, l1, l2, l3, -⟩ := _root_.id hl
  unfold maxLen at l2
  have HL := Lib.hid hl
  have HM := Lib.hid hm
  have hO0 : Hid (Own (fun _ => False) (w.alloc (.cells #[] 114)) w.heap.size 114 4 encE (.slice (some ⟨w.heap.size, 0, none⟩) 0 0) ([] : List EntryA)) := Lib.hid (Own.empty (fun k f => f.elim) _ _ _ encE_ok.len)
  have hm0 : Hid (Ext w (w.alloc (.cells #[] 114))) := Lib.hid ((Mods.refl _ w).alloc _)
  obtain ⟨ma, mc, rfl, m1, m2, m3, -⟩ := hm
  have u1 : IntKind.i64.wrap ((i : Int) + (many : Int)) = ((i + many : Nat) : Int) := by rw [IntWalk.i64_in _ (by omega)]; omega
  have lt1 : (L.take i).length = i := by rw [List.length_take]; omega
  have lt2 : (L.drop (i + many)).length = L.length - (i + many) := List.length_drop
  have HT1 := Lib.hid lt1
  have HT2 := Lib.hid lt2
  clear hl lt1 lt2
  have p1 : Hid (Sl F w 4 encE (.slice la i lc) (L.take i)) := Lib.hid (HL.out.pre i (by omega))
  have p3 : Hid (Sl F w 4 encE (.slice (if lc = i + many then la else la.map (·.add ((i + many) * 4))) (L.length - (i + many)) (lc - (i + many))) (L.drop (i + many))) := Lib.hid (by have := HL.out.tail_ (i + many) h1; simpa only [Nat.mul_one] using this)
  obtain ⟨R, hR⟩ : ∃ R, R = L.take i ++ M ++ L.drop (i + many) := ⟨_, rfl⟩
  rw [← hR]
  have HR := Lib.hid hR
  clear hR
  go_enter Tryz.func121, Tryz.ntmps121
  go_wp2_with (first
    | (at_builtin; refine wpl_app2 Tryz.elE encE_ok rfl _ _ rfl w.heap.size _ (.slice la i lc) [] (L.take i) rfl rfl hO0.out (p1.out.ext hm0.out) (by rw [HT1.out]; simp only [List.length_nil]; omega) (by simp) (fun f => f) ?_; rw [List.nil_append, List.length_nil, HT1.out, Nat.zero_add]; intro a1 c1 w1 hO1 hm1 hat1; have HO1 := Lib.hid hO1; have HM1 : Hid (Ext w w1) := Lib.hid (Mods.past hm0.out (hm1.mono (fun k hk => (hO0.out.lt k hk).1))); clear hO1 hm1 hat1)
    | (at_builtin; refine wpl_app2 Tryz.elE encE_ok rfl _ _ rfl w.heap.size (.slice a1 i c1) (.slice ma M.length mc) (L.take i) M rfl rfl HO1.out (HM.out.ext HM1.out) (by rw [HT1.out]; omega) HM1.out.size (fun f => f) ?_; rw [HT1.out]; intro a2 c2 w2 hO2 hm2 hat2; have HO2 := Lib.hid hO2; have HM2 : Hid (Ext w w2) := Lib.hid (Mods.past HM1.out (hm2.mono (fun k hk => (HO1.out.lt k hk).1))); clear hO2 hm2 hat2)
    | (at_builtin; refine wpl_app2 Tryz.elE encE_ok rfl _ _ rfl w.heap.size (.slice a2 (i + M.length) c2) _ (L.take i ++ M) (L.drop (i + many)) rfl rfl HO2.out (p3.out.ext HM2.out) (by rw [List.length_append, HT1.out, HT2.out]; omega) HM2.out.size (fun f => f) ?_; rw [List.length_append, HT1.out, HT2.out]; intro a3 c3 w3 hO3 hm3 hat3; have HO3 := Lib.hid hO3; have HM3 : Hid (Ext w w3) := Lib.hid (Mods.past HM2.out (hm3.mono (fun k hk => (HO2.out.lt k hk).1))); clear hO3 hm3 hat3)
    | fail)
  all_goals
    go_ret
    exact ⟨_, rfl, by rw [HR.out]; exact HO3.out, HM3.out⟩
/-- all of a list. -/
theorem laidE_end (lv : Value) (L : List EntryA) (hl : Sl F w 4 encE lv L) (k : Nat) (hk : k = L.length) (hb : L.length ≤ 1000000) :
    Calls Tryz.prog 121 #[lv, .int .i64 (k : Int), .int .i64 0, .slice none 0 0] w fun e w' => ∃ a c, e = .returned (.slice a k c) ∧ Own (fun _ => False) w' w.heap.size 114 4 encE (.slice a k c) L ∧ Ext w w' := by
  have h := laidE_any lv (.slice none 0 0) L [] hl (Sl.nil (fun _ => False) w 4 encE) k 0 (by omega) hb (by simp)
  refine h.mono ?_
  rintro e w' ⟨v, rfl, ho, hm⟩
  have e1 : L.take k ++ [] ++ L.drop (k + 0) = L := by rw [Nat.add_zero, List.append_nil, List.take_append_drop]
  rw [e1] at ho
  obtain ⟨a, c, rfl, _⟩ := ho.form
  subst hk
  exact ⟨a, c, rfl, ho, hm⟩
theorem laidE_beg (lv : Value) (L : List EntryA) (hl : Sl F w 4 encE lv L) (k : Nat) (hk : k = L.length) (hb : L.length ≤ 1000000) :
    Calls Tryz.prog 121 #[lv, .int .i64 0, .int .i64 0, .slice none 0 0] w fun e w' => ∃ a c, e = .returned (.slice a k c) ∧ Own (fun _ => False) w' w.heap.size 114 4 encE (.slice a k c) L ∧ Ext w w' := by
  have h := laidE_any lv (.slice none 0 0) L [] hl (Sl.nil (fun _ => False) w 4 encE) 0 0 (by omega) hb (by simp)
  refine h.mono ?_
  rintro e w' ⟨v, rfl, ho, hm⟩
  have e1 : L.take 0 ++ [] ++ L.drop (0 + 0) = L := by simp
  rw [e1] at ho
  obtain ⟨a, c, rfl, _⟩ := ho.form
  subst hk
  exact ⟨a, c, rfl, ho, hm⟩
set_option maxRecDepth 100000 in
theorem laidS_any (lv mv : Value) (L M : List ByteArray) (hl : Sl F w 1 encS lv L) (hm : Sl H w 1 encS mv M) (i many : Nat) (h1 : i + many ≤ L.length) (hb : L.length ≤ 1000000) (hb2 : M.length ≤ 1000000) :
    Calls Tryz.prog 122 #[lv, .int .i64 (i : Int), .int .i64 (many : Int), mv] w fun e w' => ∃ v, e = .returned v ∧ Own (fun _ => False) w' w.heap.size 9 1 encS v (L.take i ++ M ++ L.drop (i + many)) ∧ Ext w w' := by
  obtain ⟨la, lc, rfl, l1, l2, l3, -⟩ := _root_.id hl
  unfold maxLen at l2
  have HL := Lib.hid hl
  have HM := Lib.hid hm
  have hO0 : Hid (Own (fun _ => False) (w.alloc (.cells #[] 9)) w.heap.size 9 1 encS (.slice (some ⟨w.heap.size, 0, none⟩) 0 0) ([] : List ByteArray)) := Lib.hid (Own.empty (fun k f => f.elim) _ _ _ encS_ok.len)
  have hm0 : Hid (Ext w (w.alloc (.cells #[] 9))) := Lib.hid ((Mods.refl _ w).alloc _)
  obtain ⟨ma, mc, rfl, m1, m2, m3, -⟩ := hm
  have u1 : IntKind.i64.wrap ((i : Int) + (many : Int)) = ((i + many : Nat) : Int) := by rw [IntWalk.i64_in _ (by omega)]; omega
  have lt1 : (L.take i).length = i := by rw [List.length_take]; omega
  have lt2 : (L.drop (i + many)).length = L.length - (i + many) := List.length_drop
  have HT1 := Lib.hid lt1
  have HT2 := Lib.hid lt2
  clear hl lt1 lt2
  have p1 : Hid (Sl F w 1 encS (.slice la i lc) (L.take i)) := Lib.hid (HL.out.pre i (by omega))
  have p3 : Hid (Sl F w 1 encS (.slice (if lc = i + many then la else la.map (·.add (i + many))) (L.length - (i + many)) (lc - (i + many))) (L.drop (i + many))) := Lib.hid (by have := HL.out.tail_ (i + many) h1; simpa only [Nat.mul_one] using this)
  obtain ⟨R, hR⟩ : ∃ R, R = L.take i ++ M ++ L.drop (i + many) := ⟨_, rfl⟩
  rw [← hR]
  have HR := Lib.hid hR
  clear hR
  go_enter Tryz.func122, Tryz.ntmps122
  go_wp2_with (first
    | (at_builtin; refine wpl_app2 Tryz.elS encS_ok rfl _ _ rfl w.heap.size _ (.slice la i lc) [] (L.take i) rfl rfl hO0.out (p1.out.ext hm0.out) (by rw [HT1.out]; simp only [List.length_nil]; omega) (by simp) (fun f => f) ?_; rw [List.nil_append, List.length_nil, HT1.out, Nat.zero_add]; intro a1 c1 w1 hO1 hm1 hat1; have HO1 := Lib.hid hO1; have HM1 : Hid (Ext w w1) := Lib.hid (Mods.past hm0.out (hm1.mono (fun k hk => (hO0.out.lt k hk).1))); clear hO1 hm1 hat1)
    | (at_builtin; refine wpl_app2 Tryz.elS encS_ok rfl _ _ rfl w.heap.size (.slice a1 i c1) (.slice ma M.length mc) (L.take i) M rfl rfl HO1.out (HM.out.ext HM1.out) (by rw [HT1.out]; omega) HM1.out.size (fun f => f) ?_; rw [HT1.out]; intro a2 c2 w2 hO2 hm2 hat2; have HO2 := Lib.hid hO2; have HM2 : Hid (Ext w w2) := Lib.hid (Mods.past HM1.out (hm2.mono (fun k hk => (HO1.out.lt k hk).1))); clear hO2 hm2 hat2)
    | (at_builtin; refine wpl_app2 Tryz.elS encS_ok rfl _ _ rfl w.heap.size (.slice a2 (i + M.length) c2) _ (L.take i ++ M) (L.drop (i + many)) rfl rfl HO2.out (p3.out.ext HM2.out) (by rw [List.length_append, HT1.out, HT2.out]; omega) HM2.out.size (fun f => f) ?_; rw [List.length_append, HT1.out, HT2.out]; intro a3 c3 w3 hO3 hm3 hat3; have HO3 := Lib.hid hO3; have HM3 : Hid (Ext w w3) := Lib.hid (Mods.past HM2.out (hm3.mono (fun k hk => (HO2.out.lt k hk).1))); clear hO3 hm3 hat3)
    | fail)
  all_goals
    go_ret
    exact ⟨_, rfl, by rw [HR.out]; exact HO3.out, HM3.out⟩
/-- all of a list. -/
theorem laidS_end (lv : Value) (L : List ByteArray) (hl : Sl F w 1 encS lv L) (k : Nat) (hk : k = L.length) (hb : L.length ≤ 1000000) :
    Calls Tryz.prog 122 #[lv, .int .i64 (k : Int), .int .i64 0, .slice none 0 0] w fun e w' => ∃ a c, e = .returned (.slice a k c) ∧ Own (fun _ => False) w' w.heap.size 9 1 encS (.slice a k c) L ∧ Ext w w' := by
  have h := laidS_any lv (.slice none 0 0) L [] hl (Sl.nil (fun _ => False) w 1 encS) k 0 (by omega) hb (by simp)
  refine h.mono ?_
  rintro e w' ⟨v, rfl, ho, hm⟩
  have e1 : L.take k ++ [] ++ L.drop (k + 0) = L := by rw [Nat.add_zero, List.append_nil, List.take_append_drop]
  rw [e1] at ho
  obtain ⟨a, c, rfl, _⟩ := ho.form
  subst hk
  exact ⟨a, c, rfl, ho, hm⟩
theorem laidS_beg (lv : Value) (L : List ByteArray) (hl : Sl F w 1 encS lv L) (k : Nat) (hk : k = L.length) (hb : L.length ≤ 1000000) :
    Calls Tryz.prog 122 #[lv, .int .i64 0, .int .i64 0, .slice none 0 0] w fun e w' => ∃ a c, e = .returned (.slice a k c) ∧ Own (fun _ => False) w' w.heap.size 9 1 encS (.slice a k c) L ∧ Ext w w' := by
  have h := laidS_any lv (.slice none 0 0) L [] hl (Sl.nil (fun _ => False) w 1 encS) 0 0 (by omega) hb (by simp)
  refine h.mono ?_
  rintro e w' ⟨v, rfl, ho, hm⟩
  have e1 : L.take 0 ++ [] ++ L.drop (0 + 0) = L := by simp
  rw [e1] at ho
  obtain ⟨a, c, rfl, _⟩ := ho.form
  subst hk
  exact ⟨a, c, rfl, ho, hm⟩
set_option maxRecDepth 100000 in
theorem laidI_any (lv mv : Value) (L M : List Int) (hl : Sl F w 1 encI lv L) (hm : Sl H w 1 encI mv M) (i many : Nat) (h1 : i + many ≤ L.length) (hb : L.length ≤ 1000000) (hb2 : M.length ≤ 1000000) :
    Calls Tryz.prog 123 #[lv, .int .i64 (i : Int), .int .i64 (many : Int), mv] w fun e w' => ∃ v, e = .returned v ∧ Own (fun _ => False) w' w.heap.size 3 1 encI v (L.take i ++ M ++ L.drop (i + many)) ∧ Ext w w' := by
  obtain ⟨la, lc, rfl, l1, l2, l3, -⟩ := _root_.id hl
  unfold maxLen at l2
  have HL := Lib.hid hl
  have HM := Lib.hid hm
  have hO0 : Hid (Own (fun _ => False) (w.alloc (.cells #[] 3)) w.heap.size 3 1 encI (.slice (some ⟨w.heap.size, 0, none⟩) 0 0) ([] : List Int)) := Lib.hid (Own.empty (fun k f => f.elim) _ _ _ encI_ok.len)
  have hm0 : Hid (Ext w (w.alloc (.cells #[] 3))) := Lib.hid ((Mods.refl _ w).alloc _)
  obtain ⟨ma, mc, rfl, m1, m2, m3, -⟩ := hm
  have u1 : IntKind.i64.wrap ((i : Int) + (many : Int)) = ((i + many : Nat) : Int) := by rw [IntWalk.i64_in _ (by omega)]; omega
  have lt1 : (L.take i).length = i := by rw [List.length_take]; omega
  have lt2 : (L.drop (i + many)).length = L.length - (i + many) := List.length_drop
  have HT1 := Lib.hid lt1
  have HT2 := Lib.hid lt2
  clear hl lt1 lt2
  have p1 : Hid (Sl F w 1 encI (.slice la i lc) (L.take i)) := Lib.hid (HL.out.pre i (by omega))
  have p3 : Hid (Sl F w 1 encI (.slice (if lc = i + many then la else la.map (·.add (i + many))) (L.length - (i + many)) (lc - (i + many))) (L.drop (i + many))) := Lib.hid (by have := HL.out.tail_ (i + many) h1; simpa only [Nat.mul_one] using this)
  obtain ⟨R, hR⟩ : ∃ R, R = L.take i ++ M ++ L.drop (i + many) := ⟨_, rfl⟩
  rw [← hR]
  have HR := Lib.hid hR
  clear hR
  go_enter Tryz.func123, Tryz.ntmps123
  go_wp2_with (first
    | (at_builtin; refine wpl_app2 Tryz.elI encI_ok rfl _ _ rfl w.heap.size _ (.slice la i lc) [] (L.take i) rfl rfl hO0.out (p1.out.ext hm0.out) (by rw [HT1.out]; simp only [List.length_nil]; omega) (by simp) (fun f => f) ?_; rw [List.nil_append, List.length_nil, HT1.out, Nat.zero_add]; intro a1 c1 w1 hO1 hm1 hat1; have HO1 := Lib.hid hO1; have HM1 : Hid (Ext w w1) := Lib.hid (Mods.past hm0.out (hm1.mono (fun k hk => (hO0.out.lt k hk).1))); clear hO1 hm1 hat1)
    | (at_builtin; refine wpl_app2 Tryz.elI encI_ok rfl _ _ rfl w.heap.size (.slice a1 i c1) (.slice ma M.length mc) (L.take i) M rfl rfl HO1.out (HM.out.ext HM1.out) (by rw [HT1.out]; omega) HM1.out.size (fun f => f) ?_; rw [HT1.out]; intro a2 c2 w2 hO2 hm2 hat2; have HO2 := Lib.hid hO2; have HM2 : Hid (Ext w w2) := Lib.hid (Mods.past HM1.out (hm2.mono (fun k hk => (HO1.out.lt k hk).1))); clear hO2 hm2 hat2)
    | (at_builtin; refine wpl_app2 Tryz.elI encI_ok rfl _ _ rfl w.heap.size (.slice a2 (i + M.length) c2) _ (L.take i ++ M) (L.drop (i + many)) rfl rfl HO2.out (p3.out.ext HM2.out) (by rw [List.length_append, HT1.out, HT2.out]; omega) HM2.out.size (fun f => f) ?_; rw [List.length_append, HT1.out, HT2.out]; intro a3 c3 w3 hO3 hm3 hat3; have HO3 := Lib.hid hO3; have HM3 : Hid (Ext w w3) := Lib.hid (Mods.past HM2.out (hm3.mono (fun k hk => (HO2.out.lt k hk).1))); clear hO3 hm3 hat3)
    | fail)
  all_goals
    go_ret
    exact ⟨_, rfl, by rw [HR.out]; exact HO3.out, HM3.out⟩
/-- all of a list. -/
theorem laidI_end (lv : Value) (L : List Int) (hl : Sl F w 1 encI lv L) (k : Nat) (hk : k = L.length) (hb : L.length ≤ 1000000) :
    Calls Tryz.prog 123 #[lv, .int .i64 (k : Int), .int .i64 0, .slice none 0 0] w fun e w' => ∃ a c, e = .returned (.slice a k c) ∧ Own (fun _ => False) w' w.heap.size 3 1 encI (.slice a k c) L ∧ Ext w w' := by
  have h := laidI_any lv (.slice none 0 0) L [] hl (Sl.nil (fun _ => False) w 1 encI) k 0 (by omega) hb (by simp)
  refine h.mono ?_
  rintro e w' ⟨v, rfl, ho, hm⟩
  have e1 : L.take k ++ [] ++ L.drop (k + 0) = L := by rw [Nat.add_zero, List.append_nil, List.take_append_drop]
  rw [e1] at ho
  obtain ⟨a, c, rfl, _⟩ := ho.form
  subst hk
  exact ⟨a, c, rfl, ho, hm⟩
theorem laidI_beg (lv : Value) (L : List Int) (hl : Sl F w 1 encI lv L) (k : Nat) (hk : k = L.length) (hb : L.length ≤ 1000000) :
    Calls Tryz.prog 123 #[lv, .int .i64 0, .int .i64 0, .slice none 0 0] w fun e w' => ∃ a c, e = .returned (.slice a k c) ∧ Own (fun _ => False) w' w.heap.size 3 1 encI (.slice a k c) L ∧ Ext w w' := by
  have h := laidI_any lv (.slice none 0 0) L [] hl (Sl.nil (fun _ => False) w 1 encI) 0 0 (by omega) hb (by simp)
  refine h.mono ?_
  rintro e w' ⟨v, rfl, ho, hm⟩
  have e1 : L.take 0 ++ [] ++ L.drop (0 + 0) = L := by simp
  rw [e1] at ho
  obtain ⟨a, c, rfl, _⟩ := ho.form
  subst hk
  exact ⟨a, c, rfl, ho, hm⟩
end
end Go.Proofs.YtpjpldedebddgaaGreatDoor
namespace Go.Proofs.YtpjpldedebddgaaGreatDoor
open Go.RowKit
attribute [local go_sem ↓] Go.wp_at_zero Go.wp_at_succ
theorem key07_any (s : ByteArray) (w : World) : Calls Tryz.prog 33 #[.string s] w fun e w' => e = .returned (.bool (keyB s)) ∧ w = w' := by
  obtain ⟨n, hn⟩ : ∃ n, n = s.size := ⟨_, rfl⟩
  have HN : Hid (keyB s = (decide (1 ≤ (n : Int)) && decide ((n : Int) ≤ 32))) := Lib.hid (by rw [hn]; rfl)
  rw [hn] at HN
  clear hn
  by_cases h1 : 0 < (s.size : Int)
  all_goals
    have h2 := Lib.hid h1
    go_enter Tryz.func33, Tryz.ntmps33
    go_wp2
    go_ret
    exact ⟨ret_bool (by have := h2.out; rw [HN.out]; first | (rw [decide_eq_true (show 1 ≤ (s.size : Int) by omega)]; simp; done) | (rw [decide_eq_false (show ¬ 1 ≤ (s.size : Int) by omega)]; simp; done)), rfl⟩
section
variable {F : Nat → Prop} {w w' : World}
set_option maxRecDepth 100000 in
theorem num07_any (bv : Value) (l : List UInt8) (hb : Sl F w 1 encB bv l) (n W : Nat) (hw : W = 1 ∨ W = 2 ∨ W = 4) (hn : n < 256 ^ W) (hlen : l.length ≤ 100000) :
    Calls Tryz.prog 124 #[bv, .int .i64 (n : Int), .int .i64 (W : Int)] w fun e w' => ∃ a c, e = .returned (.slice a (l.length + W) c) ∧ Own (fun _ => False) w' w.heap.size 5 1 encB (.slice a (l.length + W) c) (l ++ leB W n) ∧ Ext w w' := by
  have hn2 : n < 4294967296 := by
    rcases hw with rfl | rfl | rfl <;> simp at hn <;> omega
  have HB := Lib.hid hb
  have HN := Lib.hid hn
  have HW := Lib.hid hw
  clear hb hn hw
  go_enter Tryz.func124, Tryz.ntmps124
  go_wp2_with fail
  refine (Put03_any bv l HB.out n W (by have := HW.out; omega) HN.out (by omega) hlen).mono ?_
  rintro e w1 ⟨a, c, rfl, hO, hm⟩
  have HO := Lib.hid hO
  have HM := Lib.hid hm
  clear hO hm
  go_wp2_with fail
  go_ret
  exact ⟨a, c, rfl, HO.out, HM.out⟩
theorem num07_01 (bv : Value) (l : List UInt8) (hb : Sl F w 1 encB bv l) (hlen : l.length ≤ 100000) :
    Calls Tryz.prog 124 #[bv, .int .i64 0, .int .i64 1] w fun e w' => ∃ v, e = .returned v ∧ Own (fun _ => False) w' w.heap.size 5 1 encB v (l ++ leB 1 0) ∧ Ext w w' :=
  (num07_any bv l hb 0 1 (.inl rfl) (by decide) hlen).mono fun _ _ ⟨_, _, h1, h2, h3⟩ => ⟨_, h1, h2, h3⟩
theorem num07_11 (bv : Value) (l : List UInt8) (hb : Sl F w 1 encB bv l) (hlen : l.length ≤ 100000) :
    Calls Tryz.prog 124 #[bv, .int .i64 1, .int .i64 1] w fun e w' => ∃ v, e = .returned v ∧ Own (fun _ => False) w' w.heap.size 5 1 encB v (l ++ leB 1 1) ∧ Ext w w' :=
  (num07_any bv l hb 1 1 (.inl rfl) (by decide) hlen).mono fun _ _ ⟨_, _, h1, h2, h3⟩ => ⟨_, h1, h2, h3⟩
theorem num07_4 (bv : Value) (l : List UInt8) (hb : Sl F w 1 encB bv l) (n : Nat) (hn : n < 4294967296) (hlen : l.length ≤ 100000) :
    Calls Tryz.prog 124 #[bv, .int .i64 (n : Int), .int .i64 4] w fun e w' => ∃ v, e = .returned v ∧ Own (fun _ => False) w' w.heap.size 5 1 encB v (l ++ leB 4 n) ∧ Ext w w' :=
  (num07_any bv l hb n 4 (.inr (.inr rfl)) (by simpa using hn) hlen).mono fun _ _ ⟨_, _, h1, h2, h3⟩ => ⟨_, h1, h2, h3⟩
theorem num07_2 (bv : Value) (l : List UInt8) (hb : Sl F w 1 encB bv l) (n : Nat) (hn : n < 65536) (hlen : l.length ≤ 100000) :
    Calls Tryz.prog 124 #[bv, .int .i64 (n : Int), .int .i64 2] w fun e w' => ∃ v, e = .returned v ∧ Own (fun _ => False) w' w.heap.size 5 1 encB v (l ++ leB 2 n) ∧ Ext w w' :=
  (num07_any bv l hb n 2 (.inr (.inl rfl)) (by simpa using hn) hlen).mono fun _ _ ⟨_, _, h1, h2, h3⟩ => ⟨_, h1, h2, h3⟩
set_option maxRecDepth 100000 in
theorem text07_any (bv : Value) (l : List UInt8) (hb : Sl F w 1 encB bv l) (s : ByteArray) (hs : s.size < 256) (hlen : l.length ≤ 100000) :
    Calls Tryz.prog 125 #[bv, .string s] w fun e w' => ∃ a c, e = .returned (.slice a (l.length + (bytesT s).length) c) ∧ Own (fun _ => False) w' w.heap.size 5 1 encB (.slice a (l.length + (bytesT s).length) c) (l ++ bytesT s) ∧ Ext w w' := by
  have HB := Lib.hid hb
  have HTL : Hid ((bytesT s).length = 1 + s.size) := Lib.hid (by unfold bytesT; rw [List.length_append, leB_length, size_toList])
  clear hb
  go_enter Tryz.func125, Tryz.ntmps125
  go_wp2_with fail
  refine (num07_any bv l HB.out s.size 1 (.inl rfl) (by simpa using hs) hlen).mono ?_
  rintro e w1 ⟨a, c, rfl, hO, hm⟩
  obtain ⟨cap3, w3, hconv, hm3, hsl⟩ := conv_bytes (P := Tryz.prog) Tryz.underlying9 Tryz.underlying117 Tryz.underlying5 w1 s s.size rfl (by omega)
  have HO := Lib.hid (hO.ext hm3)
  have HM3 := Lib.hid (hm.trans hm3)
  have HSL := Lib.hid hsl
  have HZ := Lib.hid (hm.trans hm3).size
  have hll : (l ++ leB 1 s.size).length = l.length + 1 := by rw [List.length_append, leB_length]
  have HLL := Lib.hid hll
  clear hO hm hm3 hsl hll
  go_wp2_with (at_builtin; refine wpl_app2 Tryz.elB encB_ok rfl _ _ rfl w.heap.size (.slice a (l.length + 1) c) _ (l ++ leB 1 s.size) s.data.toList rfl rfl HO.out HSL.out (by rw [HLL.out, size_toList]; omega) HZ.out (fun f => f) ?_; intro a' c' w4 hown4 hmod hat)
  have HO4 := Lib.hid hown4
  have HM4 : Hid (Ext w w4) := Lib.hid (HM3.out.trans' hmod (fun i hi h => by have := (HO.out.lt i h).1; omega))
  clear hown4 hmod hat
  go_wp2_with fail
  go_ret
  have e : (l ++ leB 1 s.size).length + s.data.toList.length = l.length + (bytesT s).length := by rw [HLL.out, size_toList, HTL.out]; omega
  have h := HO4.out
  rw [e] at h
  refine ⟨a', c', ?_, ?_, HM4.out⟩
  · show Ending.returned (.slice a' (l.length + 1 + s.size) c') = _
    rw [show l.length + 1 + s.size = l.length + (bytesT s).length by rw [HTL.out]; omega]
  · unfold bytesT at h ⊢
    rw [← List.append_assoc]
    exact h
theorem text07v (bv : Value) (l : List UInt8) (hb : Sl F w 1 encB bv l) (s : ByteArray) (hs : s.size < 256) (hlen : l.length ≤ 100000) :
    Calls Tryz.prog 125 #[bv, .string s] w fun e w' => ∃ v, e = .returned v ∧ Own (fun _ => False) w' w.heap.size 5 1 encB v (l ++ bytesT s) ∧ Ext w w' :=
  (text07_any bv l hb s hs hlen).mono fun _ _ ⟨_, _, h1, h2, h3⟩ => ⟨_, h1, h2, h3⟩
end
end Go.Proofs.YtpjpldedebddgaaGreatDoor
