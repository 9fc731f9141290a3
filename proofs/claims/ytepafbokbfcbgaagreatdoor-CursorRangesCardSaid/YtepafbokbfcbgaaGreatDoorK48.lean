/- A cursor, beside its pager. | cursor: top, ends, push. | law12.pager. | law12.built. -/
import Derived.Test.YtepafbokbfcbgaaGreatDoorK47
import Derived.Test.YtepafbokbfcbgaaGreatDoorK30
import Derived.Test.YtepafbokbfcbgaaGreatDoorK05
import Derived.Test.YtepafbokbfcbgaaGreatDoorK31
import Derived.Test.YtepafbokbfcbgaaGreatDoorK29
import Derived.BigQuiet
import Derived.IntWalk
import Derived.Deep.RegionLawGrows
import Derived.Test.YtepafbokbfcbgaaGreatDoorK32
import Derived.Test.YtepafbokbfcbgaaGreatDoorK35
namespace Go.Proofs.YtepafbokbfcbgaaGreatDoor
open Go.RowKit
/-- a frame of a cursor's stack, and where its node's rows lie. -/
structure FrE where
  node : NodeA
  at_ : Int
  ea : Option Addr
  ka : Option Addr
  ia : Option Addr
  ec : Nat
  kc : Nat
  ic : Nat
def FrE.pl (x : FrE) : NodeA × Int := (x.node, x.at_)
def encFr (x : FrE) : List Value := [.bool x.node.leaf, .slice x.ea x.node.entries.length x.ec, .slice x.ka x.node.keys.length x.kc, .slice x.ia x.node.kids.length x.ic, .int .i64 x.at_]
theorem encFr_ok : EncOk encFr 5 := ⟨fun _ => rfl, by intro x u hu; simp [encFr] at hu; rcases hu with rfl | rfl | rfl | rfl | rfl <;> rfl⟩
theorem Tryz.mkFr : (Tryz.prog.info? 136).map (fun i => (i.zero, i.size, i.bytes)) = some (some (.agg #[.bool false, .slice none 0 0, .slice none 0 0, .slice none 0 0, .int .i64 0]), 5, 88) := by kernel_rfl
theorem Tryz.elFr : ElT Tryz.prog 123 136 (.agg #[.bool false, .slice none 0 0, .slice none 0 0, .slice none 0 0, .int .i64 0]) 5 88 := ⟨Tryz.underlying123, Tryz.mkFr, rfl, by decide, by decide⟩
section
variable {F P P' F' P1 F1 : Nat → Prop} {ad : Nat → Addr} {w w' w0 w1 : World} {base c s gen kb : Nat} {root : Int} {G G' : GA} {l l' : List Nat} {sv sv' : Value} {st st' : List FrE} {x : FrE}
structure FrOk (F : Nat → Prop) (w : World) (x : FrE) : Prop where
  es : Sl F w 4 encE (.slice x.ea x.node.entries.length x.ec) x.node.entries
  ks : Sl F w 1 encS (.slice x.ka x.node.keys.length x.kc) x.node.keys
  is : Sl F w 1 encI (.slice x.ia x.node.kids.length x.ic) x.node.kids
theorem FrOk.step (h : FrOk F w x) (m : Mods F w w') (hG : ∀ k, k < w.heap.size → ¬ F k → ¬ F' k) : FrOk F' w' x := ⟨h.es.step m hG, h.ks.step m hG, h.is.step m hG⟩
/-- the cursor's own blocks. -/
def CuB (kb : Nat) (sv : Value) : Nat → Prop := fun k => k = kb ∨ sv.ownBlock = some k
structure CuR (F P : Nat → Prop) (w : World) (base c s gen kb : Nat) (root : Int) (sv : Value) (st : List FrE) : Prop where
  blk : Blk w kb #[.pointer (some ⟨c, 0, none⟩), .pointer (some ⟨s, 0, none⟩), .int .u64 (gen : Int), .int .i64 root, sv] 125
  row : Own (fun _ => False) w base 136 5 encFr sv st.reverse
  fr : ∀ x ∈ st, FrOk F w x
  nP : ∀ k, CuB kb sv k → F k ∧ ¬ P k
  ok : StOk (st.map FrE.pl)
theorem CuR.few (h : CuR F P w base c s gen kb root sv st) : st.length ≤ 16 := by have := h.ok.2; simpa using this
def cuQ (P : Nat → Prop) (kb : Nat) (sv : Value) : Nat → Prop := fun k => P k ∨ CuB kb sv k
structure CuI (F P : Nat → Prop) (ad : Nat → Addr) (w : World) (base c s gen kb : Nat) (root : Int) (G : GA) (l : List Nat) (sv : Value) (st : List FrE) : Prop where
  env : Env F ad w
  sub : ∀ k, P k → F k
  pg : PgR F w P c s G l
  cu : CuR F P w base c s gen kb root sv st
  bl : base ≤ w.heap.size
theorem CuR.lt (h : CuR F P w base c s gen kb root sv st) : ∀ k, CuB kb sv k → k < w.heap.size := by
  rintro k (rfl | e)
  · exact h.blk.lt
  · exact (h.row.lt k e).2
theorem CuI.bd (h : CuI F P ad w base c s gen kb root G l sv st) : Bd (cuQ P kb sv) w := by
  rintro k (hk | hk)
  · exact h.pg.bd k hk
  · exact h.cu.lt k hk
theorem CuI.subQ (h : CuI F P ad w base c s gen kb root G l sv st) : ∀ k, cuQ P kb sv k → F k := by
  rintro k (hk | hk)
  · exact h.sub k hk
  · exact (h.cu.nP k hk).1
/-- nothing old has turned. -/
theorem CuI.ext (h : CuI F P ad w base c s gen kb root G l sv st) (m : Ext w w') : CuI F P ad w' base c s gen kb root G l sv st ∧ Nxt (cuQ P kb sv) (cuQ P kb sv) F F ad w w' :=
  ⟨⟨h.env.mods m.ext, h.sub, h.pg.at m, ⟨h.cu.blk.ext m, h.cu.row.ext m, fun x hx => (h.cu.fr x hx).step m.ext (fun _ _ hn => hn), h.cu.nP, h.cu.ok⟩, Nat.le_trans h.bl m.size⟩, Nxt.ext h.env h.subQ m⟩
/-- the pager has turned. -/
theorem CuI.pag (h : CuI F P ad w base c s gen kb root G l sv st) (n : Nxt P P' F F' ad w w') (g : PgR F' w' P' c s G' l') :
    CuI F' P' ad w' base c s gen kb root G' l' sv st ∧ Nxt (cuQ P kb sv) (cuQ P' kb sv) F F' ad w w' := by
  have hw := h.cu
  have np := fun k (hk : CuB kb sv k) => (hw.nP k hk).2
  have m := n.stp.mods
  have nq : ∀ k, CuB kb sv k → F' k ∧ ¬ P' k := fun k hk => ⟨n.grow k (hw.nP k hk).1, n.not (hw.lt k hk) (np k hk)⟩
  refine ⟨⟨n.env, n.sub, g, ⟨hw.blk.mods m (np kb (.inl rfl)), hw.row.mods m (fun k hk => np k (.inr hk)), fun x hx => (hw.fr x hx).step (m.mono h.sub) (fun k hk hn hf => hn (n.oldF k hk hf)), nq, hw.ok⟩, Nat.le_trans h.bl m.size⟩,
    ⟨⟨m.mono (fun k hk => .inl hk), ?_, ?_⟩, ?_, n.grow, n.oldF, n.env⟩⟩
  · rintro k hk (hp | hp)
    · exact .inl (n.stp.old k hk hp)
    · exact .inr hp
  · rintro k (hp | hp)
    · exact n.stp.bd k hp
    · exact Nat.lt_of_lt_of_le (hw.lt k hp) m.size
  · rintro k (hp | hp)
    · exact n.sub k hp
    · exact (nq k hp).1
/-- the cursor's own blocks have turned, nothing else. -/
theorem CuI.turn (h : CuI F P ad w base c s gen kb root G l sv st) (hw : CuR F' P w' base c s gen kb root sv' st') (m : Mods (CuB kb sv) w w') (hF : ∀ k, F k → F' k) (hN : ∀ k, k < w.heap.size → F' k → F k)
    (hlt : ∀ k, F' k → k < w'.heap.size) (hB : ∀ k, k < w.heap.size → CuB kb sv' k → CuB kb sv k) :
    CuI F' P ad w' base c s gen kb root G l sv' st' ∧ Nxt (cuQ P kb sv) (cuQ P kb sv') F F' ad w w' := by
  have hnew : ∀ k, k < w.heap.size → ¬ F k → ¬ F' k := fun k hk hn hf => hn (hN k hk hf)
  have hE : Env F' ad w' := h.env.step (m.mono (fun k hk => (h.cu.nP k hk).1)) hnew hlt
  have hI : CuI F' P ad w' base c s gen kb root G l sv' st' :=
    ⟨hE, fun k hk => hF k (h.sub k hk), h.pg.plus m (fun k hk hq => (h.cu.nP k hq).2 hk) (fun k hk => (h.cu.nP k hk).1) hnew, hw, Nat.le_trans h.bl m.size⟩
  refine ⟨hI, ⟨⟨m.mono (fun k hk => .inr hk), ?_, hI.bd⟩, hI.subQ, hF, hN, hE⟩⟩
  rintro k hk (hp | hp)
  · exact .inl hp
  · exact .inr (hB k hk hp)
/-- the row's header is stored, the row as it was or anew. -/
theorem CuI.nul (h : CuI F P ad w base c s gen kb root G l sv st) : CuI F P ad (w.setCell ⟨kb, 4, none⟩ (.slice none 0 0)) base c s gen kb root G l (.slice none 0 0) [] ∧ Nxt (cuQ P kb sv) (cuQ P kb (.slice none 0 0)) F F ad w (w.setCell ⟨kb, 4, none⟩ (.slice none 0 0)) := by
  have m : Mods (fun k => k = kb) w (w.setCell ⟨kb, 4, none⟩ (.slice none 0 0)) := Mods.setCell (F := fun k => k = kb) (p := ⟨kb, 4, none⟩) (Mods.refl _ w) (.inr rfl) _
  refine h.turn ⟨h.cu.blk.set 4 _, Own.nil _ _ _ _ _ _, fun x hx => by simp at hx, fun k hk => ?_, ⟨fun x hx => by simp at hx, by simp⟩⟩ (m.mono (fun k e => .inl e)) (fun _ h => h) (fun _ _ h => h) (fun k hk => Nat.lt_of_lt_of_le (h.env.lt k hk) m.size) (fun k hk hq => ?_)
  · rcases hk with rfl | e
    · exact h.cu.nP _ (.inl rfl)
    · simp [Value.ownBlock] at e
  · rcases hq with rfl | e
    · exact .inl rfl
    · simp [Value.ownBlock] at e
/-- behind a method of the cursor. -/
def CuD (F P : Nat → Prop) (ad : Nat → Addr) (w : World) (base c s gen kb : Nat) (root : Int) (G : GA) (l : List Nat) (sv : Value) (r : StA ⊕ Err) (e : Ending) (w' : World) : Prop :=
  ∃ (P' F' : Nat → Prop) (sv' : Value) (st' : List FrE), CuI F' P' ad w' base c s gen kb root G l sv' st' ∧ Nxt (cuQ P kb sv) (cuQ P' kb sv') F F' ad w w' ∧
    match r with
    | .inl sa => e = .returned .nilIface ∧ st'.map FrE.pl = sa
    | .inr (el, ek) => ∃ f, e = .returned (faultV f) ∧ ErrC F' ad w' (faultV f) el ek
theorem CuD.form {r : StA ⊕ Err} {e : Ending} (h : CuD F P ad w base c s gen kb root G l sv r e w') : ∃ v, e = .returned v := by
  obtain ⟨P', F', sv', st', _, _, h⟩ := h
  cases r with
  | inl s1 => exact ⟨_, h.1⟩
  | inr er => obtain ⟨el, ek⟩ := er; obtain ⟨f, h, _⟩ := h; exact ⟨_, h⟩
theorem CuD.pre {r : StA ⊕ Err} {e : Ending} (n : Nxt (cuQ P kb sv) (cuQ P1 kb sv') F F1 ad w w0) (h : CuD F1 P1 ad w0 base c s gen kb root G l sv' r e w') : CuD F P ad w base c s gen kb root G l sv r e w' := by
  obtain ⟨P2, F2, sv2, st2, h1, h2, h3⟩ := h
  exact ⟨P2, F2, sv2, st2, h1, n.trans h2, h3⟩
theorem CuD.bad {er : Err} {f : Nat} (h : CuI F1 P1 ad w' base c s gen kb root G l sv' st') (n : Nxt (cuQ P kb sv) (cuQ P1 kb sv') F F1 ad w w') (hE : ErrC F1 ad w' (faultV f) er.1 er.2) {r : StA ⊕ Err} (hr : r = .inr er) :
    CuD F P ad w base c s gen kb root G l sv r (.returned (faultV f)) w' := by
  subst hr
  exact ⟨P1, F1, sv', st', h, n, f, rfl, hE⟩
theorem CuD.good (h : CuI F1 P1 ad w' base c s gen kb root G l sv' st') (n : Nxt (cuQ P kb sv) (cuQ P1 kb sv') F F1 ad w w') {r : StA ⊕ Err} (hr : r = .inl (st'.map FrE.pl)) :
    CuD F P ad w base c s gen kb root G l sv r (.returned .nilIface) w' := by
  subst hr
  exact ⟨P1, F1, sv', st', h, n, rfl, rfl⟩
/-- the top's place is stored. -/
theorem CuI.put {g cp : Nat} {r : List FrE} (h : CuI F P ad w base c s gen kb root G l (.slice (some ⟨g, 0, none⟩) (r.length + 1) cp) (x :: r)) (a : Int) (ha : FrOkA (x.node, a)) :
    CuI F P ad (w.setCell ⟨g, r.length * 5 + 4, none⟩ (.int .i64 a)) base c s gen kb root G l (.slice (some ⟨g, 0, none⟩) (r.length + 1) cp) ({ x with at_ := a } :: r) ∧ Nxt (cuQ P kb (.slice (some ⟨g, 0, none⟩) (r.length + 1) cp)) (cuQ P kb (.slice (some ⟨g, 0, none⟩) (r.length + 1) cp)) F F ad w (w.setCell ⟨g, r.length * 5 + 4, none⟩ (.int .i64 a)) := by
  have m : Mods (fun k => k = g) w (w.setCell ⟨g, r.length * 5 + 4, none⟩ (.int .i64 a)) := Mods.setCell (F := fun k => k = g) (p := ⟨g, r.length * 5 + 4, none⟩) (Mods.refl _ w) (.inr rfl) _
  have hg : CuB kb (.slice (some ⟨g, 0, none⟩) (r.length + 1) cp) g := .inr rfl
  have hgk : kb ≠ g := fun e => Own.notB h.cu.row h.cu.blk (by decide) g rfl e.symm
  have ho := h.cu.row
  rw [List.reverse_cons] at ho
  have hs := ho.set encFr_ok.len (i := r.length) (j := 4) (x := x) (x' := { x with at_ := a }) (u := .int .i64 a) (by rw [List.getElem?_append_right (by simp)]; simp) (by omega) rfl
  have hl : (r.reverse ++ [x]).set r.length { x with at_ := a } = ({ x with at_ := a } :: r).reverse := by
    rw [List.reverse_cons, List.set_append_right _ _ (by simp)]
    simp
  rw [hl] at hs
  refine h.turn ⟨h.cu.blk.mods m hgk, hs, fun y hy => ?_, h.cu.nP, ⟨fun y hy => ?_, by have := h.cu.ok.2; simpa using this⟩⟩ (m.mono (fun k e => e ▸ hg)) (fun _ h => h) (fun _ _ h => h) (fun k hk => Nat.lt_of_lt_of_le (h.env.lt k hk) m.size) (fun _ _ h => h)
  · have hy' : ∃ z ∈ x :: r, FrOk F w z ∧ y.node = z.node ∧ y.ea = z.ea ∧ y.ka = z.ka ∧ y.ia = z.ia ∧ y.ec = z.ec ∧ y.kc = z.kc ∧ y.ic = z.ic := by
      rcases List.mem_cons.1 hy with rfl | hy
      · exact ⟨x, List.mem_cons_self, h.cu.fr x List.mem_cons_self, rfl, rfl, rfl, rfl, rfl, rfl, rfl⟩
      · exact ⟨y, List.mem_cons_of_mem _ hy, h.cu.fr y (List.mem_cons_of_mem _ hy), rfl, rfl, rfl, rfl, rfl, rfl, rfl⟩
    obtain ⟨z, _, hz, e1, e2, e3, e4, e5, e6, e7⟩ := hy'
    have hz2 := hz.step (F' := F) (m.mono (fun k e => e ▸ (h.cu.nP g hg).1)) (fun _ _ hn => hn)
    obtain ⟨z1, z2, z3⟩ := hz2
    rw [← e1, ← e2, ← e5] at z1
    rw [← e1, ← e3, ← e6] at z2
    rw [← e1, ← e4, ← e7] at z3
    exact ⟨z1, z2, z3⟩
  · rw [List.map_cons] at hy
    rcases List.mem_cons.1 hy with rfl | hy
    · exact ha
    · exact h.cu.ok.1 y (by rw [List.map_cons]; exact List.mem_cons_of_mem _ hy)
/-- a frame more. -/
theorem CuI.push {w4 : World} {o : Obj} {K : Nat} (h : CuI F P ad w base c s gen kb root G l sv st) (hx : FrOk F w x) (hx0 : FrOkA x.pl) (hlen : st.length < 16) (hown : Own (fun _ => False) w4 base 136 5 encFr sv' (st.reverse ++ [x])) (m4 : Mods (fun k => sv.ownBlock = some k) (w.alloc o) w4)
    (hat : sv'.ownBlock = sv.ownBlock ∨ sv'.ownBlock = some K) (hK : w.heap.size ≤ K) :
    CuI (plusV F sv') P ad (w4.setCell ⟨kb, 4, none⟩ sv') base c s gen kb root G l sv' (x :: st) ∧ Nxt (cuQ P kb sv) (cuQ P kb sv') F (plusV F sv') ad w (w4.setCell ⟨kb, 4, none⟩ sv') := by
  have m5 : Mods (fun k => k = kb) w4 (w4.setCell ⟨kb, 4, none⟩ sv') := Mods.setCell (F := fun k => k = kb) (p := ⟨kb, 4, none⟩) (Mods.refl _ w4) (.inr rfl) _
  have b0 := h.cu.blk.alloc o
  have rk := h.cu.row.ext ((Mods.refl _ w).alloc o)
  have b4 := b0.mods m4 (fun e => Own.notB rk b0 (by decide) _ e rfl)
  have mA : Mods (CuB kb sv) w w4 := ((Mods.refl _ w).alloc o).trans (m4.mono (fun k e => .inr e))
  have mB : Mods (CuB kb sv) w (w4.setCell ⟨kb, 4, none⟩ sv') := mA.setCell (p := ⟨kb, 4, none⟩) (.inr (.inl rfl)) _
  have hnew : ∀ k, k < w.heap.size → ¬ F k → ¬ plusV F sv' k := by
    rintro k hk hn (hf | hf)
    · exact hn hf
    · rcases hat with e | e
      · exact hn (h.cu.nP k (.inr (e ▸ hf))).1
      · rw [e] at hf; injection hf with hf; omega
  have mF := mB.mono (fun k hk => (h.cu.nP k hk).1)
  refine h.turn ⟨b4.set 4 sv', by rw [List.reverse_cons]; exact hown.mods m5 (fun g hg e => Own.notB hown b4 (by decide) g hg e), fun y hy => ?_, fun k hk => ?_, ⟨fun y hy => ?_, by have := h.cu.few; simp; omega⟩⟩ mB (fun _ h => .inl h) (fun k hk hf => Classical.byContradiction fun hn => hnew k hk hn hf) ?_ ?_
  · rcases List.mem_cons.1 hy with rfl | hy
    · exact hx.step mF hnew
    · exact (h.cu.fr y hy).step mF hnew
  · rcases hk with e | e
    · exact ⟨.inl (h.cu.nP k (.inl e)).1, (h.cu.nP k (.inl e)).2⟩
    · refine ⟨.inr e, fun hp => ?_⟩
      rcases hat with h5 | h5
      · exact (h.cu.nP k (.inr (h5 ▸ e))).2 hp
      · rw [h5] at e
        injection e with e
        have := h.env.lt k (h.sub k hp)
        omega
  · rw [List.map_cons] at hy
    rcases List.mem_cons.1 hy with rfl | hy
    · exact hx0
    · exact h.cu.ok.1 y hy
  · rintro k (hf | hf)
    · exact Nat.lt_of_lt_of_le (h.env.lt k hf) mB.size
    · exact Nat.lt_of_lt_of_le (hown.lt k hf).2 m5.size
  · rintro k hk (e | e)
    · exact .inl e
    · rcases hat with h5 | h5
      · exact .inr (h5 ▸ e)
      · rw [h5] at e; injection e with e; omega
/-- the top is gone. -/
theorem CuI.pop {g cp : Nat} {r : List FrE} (h : CuI F P ad w base c s gen kb root G l (.slice (some ⟨g, 0, none⟩) (r.length + 1) cp) (x :: r)) :
    CuI F P ad (w.setCell ⟨kb, 4, none⟩ (.slice (some ⟨g, 0, none⟩) r.length cp)) base c s gen kb root G l (.slice (some ⟨g, 0, none⟩) r.length cp) r ∧ Nxt (cuQ P kb (.slice (some ⟨g, 0, none⟩) (r.length + 1) cp)) (cuQ P kb (.slice (some ⟨g, 0, none⟩) r.length cp)) F F ad w (w.setCell ⟨kb, 4, none⟩ (.slice (some ⟨g, 0, none⟩) r.length cp)) := by
  have m : Mods (fun k => k = kb) w (w.setCell ⟨kb, 4, none⟩ (.slice (some ⟨g, 0, none⟩) r.length cp)) := Mods.setCell (F := fun k => k = kb) (p := ⟨kb, 4, none⟩) (Mods.refl _ w) (.inr rfl) _
  have ho := h.cu.row
  rw [List.reverse_cons] at ho
  have hr : Own (fun _ => False) w base 136 5 encFr (.slice (some ⟨g, 0, none⟩) r.length cp) r.reverse := by
    refine ⟨?_, fun _ _ f => f⟩
    rcases ho.1.2 with ⟨h0, _⟩ | ⟨g', cap, cur, h0, hb, hg, h1, h2, h3, h4⟩
    · cases h0
    · injection h0 with h0 h0n h0c
      injection h0 with h0
      injection h0 with h0
      subst h0 h0c
      refine ⟨by rw [flatMap_len encFr_ok.len], .inr ⟨g, cp, cur, by simp, hb, hg, ?_, h2, h3, ?_⟩⟩
      · rw [List.length_append] at h1; omega
      · have h5 := congrArg (List.take (r.reverse.length * 5)) h4
        rw [List.take_take, List.flatMap_append, List.take_left' (by rw [flatMap_len encFr_ok.len])] at h5
        rw [List.length_append] at h5
        rw [← h5]
        congr 1
        omega
  have hB : ∀ k, CuB kb (.slice (some ⟨g, 0, none⟩) r.length cp) k → CuB kb (.slice (some ⟨g, 0, none⟩) (r.length + 1) cp) k := fun k hk => hk
  refine h.turn ⟨h.cu.blk.set 4 _, hr.mods m (fun g' hg' e => Own.notB hr h.cu.blk (by decide) g' hg' e), fun y hy => (h.cu.fr y (List.mem_cons_of_mem _ hy)).step (m.mono (fun k e => e ▸ (h.cu.nP kb (.inl rfl)).1)) (fun _ _ hn => hn), fun k hk => h.cu.nP k (hB k hk), ⟨fun y hy => h.cu.ok.1 y (by rw [List.map_cons]; exact List.mem_cons_of_mem _ hy), by have := h.cu.few; simp at this ⊢; omega⟩⟩
    (m.mono (fun k e => .inl e)) (fun _ h => h) (fun _ _ h => h) (fun k hk => Nat.lt_of_lt_of_le (h.env.lt k hk) m.size) (fun k _ hk => hB k hk)
/-- the header's form. -/
theorem CuI.form {r : List FrE} (h : CuI F P ad w base c s gen kb root G l sv (x :: r)) : ∃ g cp, sv = .slice (some ⟨g, 0, none⟩) (r.length + 1) cp ∧ r.length + 1 ≤ cp ∧ cp ≤ maxLen ∧ (∀ o, w.frozen? ⟨g, o, none⟩ = false) ∧
    w.cell? ⟨g, r.length * 5, none⟩ = some (.bool x.node.leaf) ∧ w.cell? ⟨g, r.length * 5 + 1, none⟩ = some (.slice x.ea x.node.entries.length x.ec) ∧ w.cell? ⟨g, r.length * 5 + 2, none⟩ = some (.slice x.ka x.node.keys.length x.kc) ∧ w.cell? ⟨g, r.length * 5 + 3, none⟩ = some (.slice x.ia x.node.kids.length x.ic) ∧ w.cell? ⟨g, r.length * 5 + 4, none⟩ = some (.int .i64 x.at_) := by
  have ho := h.cu.row
  rw [List.reverse_cons] at ho
  rcases ho.1.2 with ⟨_, h0⟩ | ⟨g, cap, cur, h0, hb, hg, h1, h2, h3, h4⟩
  · simp at h0
  · rw [List.length_append, List.length_reverse] at h0 h1
    simp only [List.length_cons, List.length_nil, Nat.zero_add] at h0 h1
    subst h0
    have hs := ho.sl encFr_ok.len (by have := h.cu.few; simp at this ⊢ <;> omega)
    obtain ⟨b, off, e, hc⟩ := hs.elem (k := r.length) (w' := w) (by simp) (Mods.refl _ w)
    injection e with e
    injection e with e1 e2 _
    subst e1 e2
    have hat : ∀ (i : Nat) (u : Value), (encFr x)[i]? = some u → w.cell? ⟨g, 0 + r.length * 5 + i, none⟩ = some u := fun i u hu => hc i u (by rw [List.getElem_append_right (by simp)]; simpa using hu)
    have c0 := hat 0 (.bool x.node.leaf) rfl
    have c1 := hat 1 (.slice x.ea x.node.entries.length x.ec) rfl
    have c2 := hat 2 (.slice x.ka x.node.keys.length x.kc) rfl
    have c3 := hat 3 (.slice x.ia x.node.kids.length x.ic) rfl
    have c4 := hat 4 (.int .i64 x.at_) rfl
    simp only [Nat.zero_add, Nat.add_zero] at c0 c1 c2 c3 c4
    exact ⟨g, cap, rfl, h1, h2, fun o => Blk.frozen (c := cur) (t := 136) hg o, c0, c1, c2, c3, c4⟩
theorem CuI.cells {g n cp : Nat} {r : List FrE} (h : CuI F P ad w base c s gen kb root G l (.slice (some ⟨g, 0, none⟩) n cp) (x :: r)) : (∀ o, w.frozen? ⟨g, o, none⟩ = false) ∧
    w.cell? ⟨g, r.length * 5, none⟩ = some (.bool x.node.leaf) ∧ w.cell? ⟨g, r.length * 5 + 1, none⟩ = some (.slice x.ea x.node.entries.length x.ec) ∧ w.cell? ⟨g, r.length * 5 + 2, none⟩ = some (.slice x.ka x.node.keys.length x.kc) ∧ w.cell? ⟨g, r.length * 5 + 3, none⟩ = some (.slice x.ia x.node.kids.length x.ic) ∧ w.cell? ⟨g, r.length * 5 + 4, none⟩ = some (.int .i64 x.at_) := by
  obtain ⟨g', cp', e, _, _, h1⟩ := h.form
  injection e with e _ _
  injection e with e
  injection e with e _ _
  subst e
  exact h1
end
end Go.Proofs.YtepafbokbfcbgaaGreatDoor
namespace Go.Proofs.YtepafbokbfcbgaaGreatDoor
open Go.RowKit
attribute [local go_sem ↓] Go.wp_at_zero Go.wp_at_succ
section
variable {F P P' F' P1 F1 : Nat → Prop} {ad : Nat → Addr} {w w' w0 w1 : World} {base c s gen kb : Nat} {root : Int} {G G' : GA} {l l' : List Nat} {sv sv' : Value} {st st' : List FrE} {x : FrE}
set_option maxRecDepth 100000 in
theorem topN_any {v0 v1 v2 v3 : Value} {g n m cp : Nat} (hB : Blk w kb #[v0, v1, v2, v3, .slice (some ⟨g, 0, none⟩) n cp] 125) (hn : n = m + 1) (hm : m ≤ 1000) :
    Calls Tryz.prog 70 #[.pointer (some ⟨kb, 0, none⟩)] w fun e w' => e = .returned (.pointer (some ⟨g, m * 5, none⟩)) ∧ ∃ q, w' = w.drewN q := by
  have k4 := hB.cell (o := 4) (v := .slice (some ⟨g, 0, none⟩) n cp) rfl
  have u1 : IntKind.i64.wrap ((n : Int) - 1) = (m : Int) := by rw [IntWalk.i64_in _ (by omega)]; omega
  have u2 : (0 : Int) ≤ (m : Int) := by omega
  have u3 : (m : Int) < (n : Int) := by omega
  clear hB hn hm
  go_enter Tryz.func70, Tryz.ntmps70
  go_wp2_with fail
  go_quiet (fail)
  go_wp2_with fail
  go_ret
  exact ⟨by simp, _, rfl⟩
theorem top_any {v0 v1 v2 v3 : Value} {g n m cp : Nat} (hB : Blk w kb #[v0, v1, v2, v3, .slice (some ⟨g, 0, none⟩) n cp] 125) (hn : n = m + 1) (hm : m ≤ 1000) :
    Calls Tryz.prog 70 #[.pointer (some ⟨kb, 0, none⟩)] w fun e w' => e = .returned (.pointer (some ⟨g, m * 5, none⟩)) ∧ Ext w w' :=
  (topN_any hB hn hm).mono (fun e w' ⟨h1, q, h2⟩ => ⟨h1, by rw [h2]; exact (Mods.refl _ w).drewN q⟩)
/-- .. within a region that draws. -/
theorem top_q {v0 v1 v2 v3 : Value} {g n m cp : Nat} (hB : Blk w kb #[v0, v1, v2, v3, .slice (some ⟨g, 0, none⟩) n cp] 125) (hn : n = m + 1) (hm : m ≤ 1000) (q : Nat) :
    Calls Tryz.prog 70 #[.pointer (some ⟨kb, 0, none⟩)] (w.drewN q) fun e w' => e = .returned (.pointer (some ⟨g, m * 5, none⟩)) ∧ ∃ k, w' = w.drewN k :=
  (topN_any (hB.ext ((Mods.refl _ w).drewN q)) hn hm).mono (fun e w' ⟨h1, k, h2⟩ => ⟨h1, q + k, by rw [h2]; unfold World.drewN; simp [Nat.add_assoc]⟩)
set_option maxRecDepth 100000 in
theorem ends_any (n : NodeA) {g o ec ic : Nat} {ea ia : Option Addr} (c0 : w.cell? ⟨g, o, none⟩ = some (.bool n.leaf)) (c1 : w.cell? ⟨g, o + 1, none⟩ = some (.slice ea n.entries.length ec)) (c3 : w.cell? ⟨g, o + 3, none⟩ = some (.slice ia n.kids.length ic)) :
    Calls Tryz.prog 98 #[.pointer (some ⟨g, o, none⟩)] w fun e w' => e = .returned (.int .i64 (endsA n : Int)) ∧ w = w' := by
  cases hl : n.leaf with
  | true =>
    have HE : Hid (endsA n = n.entries.length) := Lib.hid (by unfold endsA; rw [if_pos hl])
    rw [hl] at c0
    clear hl
    go_enter Tryz.func98, Tryz.ntmps98
    go_wp2_with fail
    go_ret
    rw [HE.out]
    exact ⟨rfl, rfl⟩
  | false =>
    have HE : Hid (endsA n = n.kids.length) := Lib.hid (by unfold endsA; rw [if_neg (by rw [hl]; simp)])
    rw [hl] at c0
    clear hl
    go_enter Tryz.func98, Tryz.ntmps98
    go_wp2_with fail
    go_ret
    rw [HE.out]
    exact ⟨rfl, rfl⟩
set_option maxRecDepth 100000 in
set_option maxHeartbeats 1000000 in
theorem push_any (h : CuI F P ad w base c s gen kb root G l sv st) (ht : G.total) (id : Int) :
    Calls Tryz.prog 97 #[.pointer (some ⟨kb, 0, none⟩), .int .i64 id] w (CuD F P ad w base c s gen kb root G l sv (pushA G (st.map FrE.pl) id)) := by
  obtain ⟨pa, pc, rfl, q1, q2⟩ := _root_.id h.cu.row.form
  have hfew := h.cu.few
  have hrl : st.reverse.length = st.length := List.length_reverse
  rw [hrl] at h q1 ⊢
  have H := Lib.hid h
  have k4 := h.cu.blk.cell (o := 4) (v := .slice pa st.length pc) rfl
  have kf := h.cu.blk.frozen
  have HML : Hid ((st.map FrE.pl).length = st.length) := Lib.hid (by simp)
  by_cases h16 : 16 ≤ st.length
  · have HV : Hid (pushA G (st.map FrE.pl) id = .inr ([pgOf id], 5)) := Lib.hid (by unfold pushA; rw [if_pos (by rw [HML.out]; exact h16)])
    have g5 := h.env.c5
    have HA := Lib.hid (fun op => at_any h.env op id _ _ _ (ErrC.sent 5 (by omega) (by omega)))
    have h16i : (16 : Int) ≤ (st.length : Int) := by omega
    clear h hrl
    go_enter Tryz.func97, Tryz.ntmps97
    go_wp2_with fail
    refine (HA.out _).mono ?_
    rintro e w1 ⟨b, rfl, hE, hm⟩
    have HE := Lib.hid hE
    have HM := Lib.hid (H.out.ext hm)
    clear hE hm
    go_wp2_with fail
    go_ret
    exact CuD.bad HM.out.1 HM.out.2 HE.out HV.out
  · have HV : Hid (pushA G (st.map FrE.pl) id = match G.load id with | .inr e => .inr e | .inl n => .inl ((n, 0) :: st.map FrE.pl)) := Lib.hid (by unfold pushA; rw [if_neg (by rw [HML.out]; exact h16)]; rfl)
    have k0 := h.cu.blk.cell (o := 0) (v := .pointer (some ⟨c, 0, none⟩)) rfl
    have k1 := h.cu.blk.cell (o := 1) (v := .pointer (some ⟨s, 0, none⟩)) rfl
    have k2 := h.cu.blk.cell (o := 2) (v := .int .u64 (gen : Int)) rfl
    have HLD := Lib.hid (load_any h.env h.sub h.pg gen id (ht.knows id))
    unfold pgV at HLD
    have h16i : ¬ (16 : Int) ≤ (st.length : Int) := by omega
    have H16 := Lib.hid h16
    clear h hrl h16
    go_enter Tryz.func97, Tryz.ntmps97
    go_wp2_with fail
    refine (HLD.out).mono ?_
    rintro e w1 ⟨P1, F1, hG1, hN1, hres⟩
    have H1 := Lib.hid (H.out.pag hN1 hG1)
    clear hG1 hN1 k0 k1 k2 k4 kf
    cases hld : G.load id with
    | inr er =>
      obtain ⟨el, ek⟩ := er
      rw [hld] at hres
      obtain ⟨f, rfl, hE⟩ := hres
      have HZ : Hid (pushA G (st.map FrE.pl) id = .inr (el, ek)) := Lib.hid (by rw [HV.out, hld])
      have m2 : Ext w1 (w1.alloc (.cells #[.bool false, .slice none 0 0, .slice none 0 0, .slice none 0 0] 134)) := (Mods.refl _ w1).alloc _
      have H2 := Lib.hid (H1.out.1.ext m2)
      have HE := Lib.hid (hE.mods m2.ext)
      clear hE hld m2
      go_wp2_with fail
      go_ret
      exact CuD.bad H2.out.1 (H1.out.2.trans H2.out.2) HE.out HZ.out
    | inl n =>
      rw [hld] at hres
      obtain ⟨ve, vk, vi, rfl, hse, hsk, hsi⟩ := hres
      obtain ⟨ea, ec, rfl, _, _, _, _⟩ := _root_.id hse
      obtain ⟨ka, kc, rfl, _, _, _, _⟩ := _root_.id hsk
      obtain ⟨ia, ic, rfl, _, _, _, _⟩ := _root_.id hsi
      have HZ : Hid (pushA G (st.map FrE.pl) id = .inl ((n, 0) :: st.map FrE.pl)) := Lib.hid (by rw [HV.out, hld])
      have HRT := Lib.hid (GA.load_right hld)
      have m2 : Ext w1 (w1.alloc (.cells #[.bool n.leaf, .slice ea n.entries.length ec, .slice ka n.keys.length kc, .slice ia n.kids.length ic] 134)) := (Mods.refl _ w1).alloc _
      have H2 := Lib.hid (H1.out.1.ext m2)
      have HFR : Hid (FrOk F1 (w1.alloc (.cells #[.bool n.leaf, .slice ea n.entries.length ec, .slice ka n.keys.length kc, .slice ia n.kids.length ic] 134)) ⟨n, 0, ea, ka, ia, ec, kc, ic⟩) := Lib.hid ⟨hse.ext m2, hsk.ext m2, hsi.ext m2⟩
      have hND := Blk.new w1 #[.bool n.leaf, .slice ea n.entries.length ec, .slice ka n.keys.length kc, .slice ia n.kids.length ic] 134
      have d0 := hND.cell (o := 0) (v := .bool n.leaf) rfl
      have d1 := hND.cell (o := 1) (v := .slice ea n.entries.length ec) rfl
      have d2 := hND.cell (o := 2) (v := .slice ka n.keys.length kc) rfl
      have d3 := hND.cell (o := 3) (v := .slice ia n.kids.length ic) rfl
      have k4 := H2.out.1.cu.blk.cell (o := 4) (v := .slice pa st.length pc) rfl
      have k4b := fun o => cellE ((Mods.refl _ _).alloc o) k4
      have hbl := H2.out.1.bl
      have HO2 : Hid (Own (fun _ => False) (((w1.alloc (.cells #[.bool n.leaf, .slice ea n.entries.length ec, .slice ka n.keys.length kc, .slice ia n.kids.length ic] 134))).drew.alloc (.cells #[.bool n.leaf, .slice ea n.entries.length ec, .slice ka n.keys.length kc, .slice ia n.kids.length ic, .int .i64 0] 136)) base 136 5 encFr (.slice pa st.length pc) st.reverse) := Lib.hid ((H2.out.1.cu.row.ext (Mods.refl _ _).drew).ext ((Mods.refl _ _).alloc _))
      have HB2 : Hid (Blk (((w1.alloc (.cells #[.bool n.leaf, .slice ea n.entries.length ec, .slice ka n.keys.length kc, .slice ia n.kids.length ic] 134))).drew.alloc (.cells #[.bool n.leaf, .slice ea n.entries.length ec, .slice ka n.keys.length kc, .slice ia n.kids.length ic, .int .i64 0] 136)) kb #[.pointer (some ⟨c, 0, none⟩), .pointer (some ⟨s, 0, none⟩), .int .u64 (gen : Int), .int .i64 root, .slice pa st.length pc] 125) := Lib.hid (((H2.out.1.cu.blk.drew).alloc _))
      clear hse hsk hsi hld m2 hND
      go_wp2_with fail
      go_region_law
        (first
          | (refine step_app2 Tryz.elFr encFr_ok (by rfl) _ _ (by rfl) base (.slice pa st.length pc) _ st.reverse [⟨n, 0, ea, ka, ia, ec, kc, ic⟩] (by rfl) (by rfl) HO2.out (Sl.one (F := fun _ => False) (heap_at (by simp)) (fun f => f)) (by simp only [List.length_reverse, List.length_cons, List.length_nil]; omega) (by simp at hbl ⊢; omega) (fun f => f) ?_; simp only [List.length_reverse, List.length_cons, List.length_nil, Nat.zero_add]; intro a11 c11 w11 hO11 hm11 hat11; have hB11 := HB2.out.mods hm11 (fun e => Own.notB HO2.out HB2.out (by decide) _ e rfl); have z4 := hB11.cell (o := 4) (v := .slice pa st.length pc) rfl; have zf := hB11.frozen 4; clear hB11)
          | fail)
      all_goals
        have H2D := Lib.hid (H2.out.1.ext (Mods.refl _ _).drew)
        have H3 := Lib.hid (H2D.out.1.push (x := ⟨n, 0, ea, ka, ia, ec, kc, ic⟩) (HFR.out.step (Mods.refl _ _).drew (fun _ _ hn => hn)) (zero_ok HRT.out).1 (by have := H16.out; omega) hO11 hm11 (hat11.imp (fun h => h) (fun h => h)) (by simp))
        clear hO11 hm11 hat11 z4 zf d0 d1 d2 d3 k4 k4b hbl
        go_wp2_with fail
        go_ret
        exact CuD.good H3.out.1 (((H1.out.2.trans H2.out.2).trans H2D.out.2).trans H3.out.2) HZ.out
end
end Go.Proofs.YtepafbokbfcbgaaGreatDoor
namespace Go.Proofs.YtepafbokbfcbgaaGreatDoor
open Go.RowKit
set_option maxRecDepth 100000 in
set_option maxHeartbeats 2000000 in
theorem pager12_any {ad : Nat → Addr} {w : World} (hL : Env NoB ad w) (xs : List PgE) (pv : Value) (hp : Sl NoB w 4 encPg pv xs) (hb : ∀ x ∈ xs, Sl NoB w 1 encB (svE x) x.1.body) (hok : PutsOk 200 (xs.map (·.1))) (hlen : xs.length ≤ 1000) :
    Calls Tryz.prog 18 #[pv] w (PagerOf ad w 5 (xs.map (·.1))) := by
  have m0 : Ext w (w.alloc (.cells #[.pointer none, .pointer none, .int .u64 0] 34)) := (Mods.refl _ w).alloc _
  have HL := Lib.hid (hL.withR m0 (by simp))
  have HB0 := Lib.hid (Blk.new w #[.pointer none, .pointer none, .int .u64 0] 34)
  have HL0 := Lib.hid hL
  have HM0 := Lib.hid m0
  have HBD := Lib.hid hb
  have HOK := Lib.hid hok
  obtain ⟨la, lc, rfl, h1, h2, h3, hll⟩ := hp
  unfold maxLen at h2
  have HLL := Lib.hid hll
  clear hL m0 hb hok hll
  go_enter Tryz.func18, Tryz.ntmps18
  go_wp2_with fail
  refine (dkNew_ok 200 256 (by omega) (by omega) (by omega) (by omega)).mono ?_
  rintro e w1 ⟨d, Pd, rfl, hD, hn, hm⟩
  have HN1 := Lib.hid (Nxt.of (P := NoB) (P' := Pd) HL.out (fun _ h => h.elim) ⟨hm, fun k hk h => by have := hn k h; omega, hD.bd⟩)
  have HD := Lib.hid hD
  clear hD hn hm
  go_wp2_with fail
  refine (caNew_ok HN1.out.env (fun _ h => .inr h) HD.out 4 (by omega) (by omega)).mono ?_
  rintro e w2 ⟨c, sb, bvs, F2, rfl, hC, hN2⟩
  have HC := Lib.hid hC
  have HN2 := Lib.hid (HN1.out.trans hN2)
  clear hC hN2
  go_wp2_with fail
  refine (spNew_any 200 (by omega) (by omega)).mono ?_
  rintro e w3 ⟨s, b2, rfl, hS, h1', h2', hm3⟩
  obtain ⟨P, F, hG, hN⟩ := PgR.made (s := s) (b2 := b2) (by omega) (by omega) (q := 4) (by omega) (by omega) HC.out HN2.out hS hm3 h1' h2'
  have HS0 : Hid (FilS ad _ _ c s (xs.map (·.1)) 0 w3) := Lib.hid ⟨P, F, hG, hN⟩
  clear hS h1' h2' hm3 hG hN
  go_wp2_with fail
  go_loopg [10] xs.length (fun m v10 wr => ∃ (k : Nat), k + m = xs.length ∧ v10 = .int .i64 (k : Int) ∧ Hid (FilS ad (w.alloc (.cells #[.pointer none, .pointer none, .int .u64 0] 34)) (plusR NoB w.heap.size) c s (xs.map (·.1)) k wr))
  case atStart => exact ⟨0, by omega, rfl, HS0⟩
  case round =>
    obtain ⟨k, hkm, rfl, HS⟩ := hrel
    obtain ⟨P, F, hG, hN⟩ := HS.out
    have HG := Lib.hid hG
    have HN := Lib.hid hN
    have HEX : Hid (Ext w wr) := Lib.hid (HM0.out.trans hN.stp.mods)
    clear hG hN
    by_cases hlt : k < xs.length
    · obtain ⟨b, off, rfl, hbb, hF, hc⟩ := Sl.at HLL.out HEX.out (fun _ _ f => f.elim) k hlt
      obtain ⟨x, hx⟩ : ∃ x, xs[k]? = some x := ⟨_, List.getElem?_eq_getElem hlt⟩
      have hx' : xs[k] = x := by rw [List.getElem?_eq_getElem hlt] at hx; exact Option.some.inj hx
      rw [hx'] at hc
      obtain ⟨⟨pk, pi, pg, body⟩, ba, bn, bc⟩ := x
      have c0 : wr.cell? ⟨b, off + k * 4, none⟩ = some (.int .i64 pk) := hc 0 _ rfl
      have c1 : wr.cell? ⟨b, off + k * 4 + 1, none⟩ = some (.int .i64 pi) := hc 1 _ rfl
      have c2 : wr.cell? ⟨b, off + k * 4 + 2, none⟩ = some (.int .u64 (pg : Int)) := hc 2 _ rfl
      have c3 : wr.cell? ⟨b, off + k * 4 + 3, none⟩ = some (.slice ba bn bc) := hc 3 _ rfl
      have hpx : (xs.map (·.1))[k]? = some ⟨pk, pi, pg, body⟩ := by rw [List.getElem?_map, hx]; rfl
      have hpm := List.mem_of_getElem? hpx
      have hbS : Sl F wr 1 encB (.slice ba bn bc) body := (HBD.out _ (List.mem_of_getElem? hx)).step HEX.out (fun q hq _ hf => by
        rcases HN.out.oldF q (Nat.lt_of_lt_of_le hq HM0.out.size) hf with h | h
        · exact h
        · omega)
      have hid := HOK.out.id _ hpm
      have hsm := putsG_same ((xs.map (·.1)).take k) (G0 200)
      have HPX := Lib.hid hpx
      have HPUT := Lib.hid (pgPut HN.out.env HN.out.sub HG.out ⟨pk, pi, pg, body⟩ (.slice ba bn bc) hbS (HOK.out.gen _ hpm) ⟨by omega, by rw [hsm.1]; exact hid.2⟩ (by rw [hsm.2.1]; exact HOK.out.ok _ hpm) (by rw [hsm.2.2]; have h9 : (G0 200).cost = 0 := rfl; rw [h9]; simp only [List.length_take, List.length_map]; omega))
      unfold pageV at HPUT
      simp only at HPUT
      have HID := Lib.hid hid
      clear hc hx hx' hpx hpm hbS hid hsm
      have i1 : (0 : Int) ≤ (k : Int) := by omega
      have i2 : (k : Int) < (xs.length : Int) := by omega
      go_wp2_with fail
      refine (HPUT.out).mono ?_
      rintro e w4 ⟨P4, F4, hG4, hN4, rfl⟩
      have y1 := cellM hN4.stp.mods c1 (fun hp => by
        have := HN.out.stp.old b (by have := HM0.out.size; omega) hp
        exact this)
      have HG4 := Lib.hid hG4
      have HN4 := Lib.hid (HN.out.trans hN4)
      have HMK : Hid (spMark (marksS (spNew 200) ((xs.map (·.1)).take k)) pi = (marksS (spNew 200) ((xs.map (·.1)).take (k + 1)), none)) := Lib.hid (HOK.out.new (by omega) HPX.out)
      clear hG4 hN4 c0 c1 c2 c3
      go_wp2_with fail
      refine (pgMark HN4.out.env HN4.out.sub HG4.out pi).mono ?_
      rintro e w5 ⟨P5, F5, hG5, hN5, ev, rfl, hev⟩
      rw [HMK.out] at hG5 hev
      cases hev
      have HS5 : Hid (FilS ad (w.alloc (.cells #[.pointer none, .pointer none, .int .u64 0] 34)) (plusR NoB w.heap.size) c s (xs.map (·.1)) (k + 1) w5) := Lib.hid ⟨P5, F5, by rw [← PutsOk.put HPX.out]; exact hG5, HN4.out.trans hN5⟩
      clear hG5 hN5 y1
      go_wp2_with fail
      go_roundg (gk - 1)
      case measure => omega
      case rel => exact ⟨k + 1, by omega, by go_num, HS5⟩
    · have HT : Hid ((xs.map (·.1)).take k = xs.map (·.1)) := Lib.hid (List.take_of_length_le (by simp; omega))
      have rb := HN.out.blk HB0.out (fun f => f)
      have r0 := rb.cell (o := 0) rfl
      have r1 := rb.cell (o := 1) rfl
      have r2 := rb.cell (o := 2) rfl
      have rf := rb.frozen
      have hR : ∀ k, P k → k ≠ w.heap.size := fun k hk e => by
        subst e; exact HN.out.stp.old _ (by simp) hk
      have mR : Mods (fun k => k = w.heap.size) wr (((wr.setCell ⟨w.heap.size, 0, none⟩ (.pointer (some ⟨c, 0, none⟩))).setCell ⟨w.heap.size, 1, none⟩ (.pointer (some ⟨s, 0, none⟩))).setCell ⟨w.heap.size, 2, none⟩ (.int .u64 5)) := Mods.set3 (F := fun k => k = w.heap.size) (Mods.refl _ wr) (.inr rfl) _ _ _
      have hG4 := HG.out.plus (F' := F) mR hR (fun k hk => HN.out.grow k (.inr hk)) (fun _ _ h => h)
      rw [HT.out] at hG4
      have HG4 := Lib.hid hG4
      have HNN : Hid (Nxt NoB P NoB F ad w (((wr.setCell ⟨w.heap.size, 0, none⟩ (.pointer (some ⟨c, 0, none⟩))).setCell ⟨w.heap.size, 1, none⟩ (.pointer (some ⟨s, 0, none⟩))).setCell ⟨w.heap.size, 2, none⟩ (.int .u64 5))) := Lib.hid ⟨⟨(Mods.set3 (HM0.out.trans HN.out.stp.mods) (.inl (Nat.le_refl w.heap.size)) (.pointer (some ⟨c, 0, none⟩)) (.pointer (some ⟨s, 0, none⟩)) (.int .u64 5)), fun k hk hp => HN.out.stp.old k (Nat.lt_of_lt_of_le hk HM0.out.size) hp, fun k hk => Nat.lt_of_lt_of_le (HN.out.stp.bd k hk) mR.size⟩,
        HN.out.sub, fun _ h => h.elim, fun k hk hf => (HN.out.oldF k (Nat.lt_of_lt_of_le hk HM0.out.size) hf).elim id (fun e => by omega), HN.out.env.mods (mR.mono (fun k hk => HN.out.grow k (.inr hk)))⟩
      have HBR := Lib.hid (Blk.set3 rb (.pointer (some ⟨c, 0, none⟩)) (.pointer (some ⟨s, 0, none⟩)) (.int .u64 5))
      clear hG4 mR hR rb
      go_wp2_with fail
      refine bodyPost_ret (results_row_tmp rfl _ _ w.heap.size 34 #[.pointer (some ⟨c, 0, none⟩), .pointer (some ⟨s, 0, none⟩), .int .u64 5] _ rfl HBR.out Tryz.underlying34 rfl Tryz.pagerSize) rfl ?_
      exact ⟨c, s, P, F, rfl, HG4.out, HNN.out⟩
end Go.Proofs.YtepafbokbfcbgaaGreatDoor
namespace Go.Proofs.YtepafbokbfcbgaaGreatDoor
open Go.RowKit
attribute [local go_sem ↓] Go.wp_at_zero Go.wp_at_succ
section
variable {F : Nat → Prop} {w w' wr w2 : World}
set_option maxRecDepth 100000 in
set_option maxHeartbeats 2000000 in
theorem built12_any (l : List PairS) (lv : Value) (hl : Sl NoF w 2 encP lv l) (E K : Nat) (hE : E < 256) (hK : K < 256) :
    Calls Tryz.prog 17 #[.agg #[lv, .int .u8 (E : Int), .int .u8 (K : Int)]] w (BuiltR 300 w l (1 + E % 3) (2 + K % 3)) := by
  obtain ⟨la, lc, rfl, h1, h2, h3, hll⟩ := hl
  unfold maxLen at h2
  obtain ⟨q, hq⟩ : ∃ q, q = min l.length 24 := ⟨_, rfl⟩
  have hmin : min (l.length : Int) 24 = (q : Int) := by omega
  have i1 : (0 : Int) ≤ (q : Int) := by omega
  have i2 : (q : Int) ≤ (lc : Int) := by omega
  have m0 : Ext w ((w.alloc (.cells #[.slice la l.length lc, .int .u8 (E : Int), .int .u8 (K : Int)] 50)).alloc (.cells #[.slice none 0 0, .int .i64 0, .int .i64 0] 27)) := ((Mods.refl _ w).alloc _).alloc _
  have HSL : Hid (Sl NoF w 2 encP (.slice la q lc) (l.take 24)) := Lib.hid ⟨la, lc, by rw [List.length_take, hq, Nat.min_comm], by rw [List.length_take]; omega, by unfold maxLen; omega, by rw [List.length_take]; omega, by
    rcases hll with hll | ⟨b, off, e, hb, hF, hc⟩
    · left; rw [hll]; rfl
    · right
      refine ⟨b, off, e, hb, hF, fun i x hx j u hu => hc i x ?_ j u hu⟩
      rw [List.getElem?_take] at hx
      split at hx
      · exact hx
      · cases hx⟩
  have HPR := Lib.hid (pairs_any (w := ((w.alloc (.cells #[.slice la l.length lc, .int .u8 (E : Int), .int .u8 (K : Int)] 50)).alloc (.cells #[.slice none 0 0, .int .i64 0, .int .i64 0] 27))) (l.take 24) (.slice la q lc) (HSL.out.ext m0) (by rw [List.length_take]; omega))
  have HM0 := Lib.hid m0
  have HBX : Hid (Blk ((w.alloc (.cells #[.slice la l.length lc, .int .u8 (E : Int), .int .u8 (K : Int)] 50)).alloc (.cells #[.slice none 0 0, .int .i64 0, .int .i64 0] 27)) w.heap.size #[.slice la l.length lc, .int .u8 (E : Int), .int .u8 (K : Int)] 50) := Lib.hid ((Blk.new w _ _).alloc _)
  have HBR : Hid (Blk ((w.alloc (.cells #[.slice la l.length lc, .int .u8 (E : Int), .int .u8 (K : Int)] 50)).alloc (.cells #[.slice none 0 0, .int .i64 0, .int .i64 0] 27)) (w.heap.size + 1) #[.slice none 0 0, .int .i64 0, .int .i64 0] 27) := Lib.hid (heap_at (by simp))
  clear m0 hq hll
  go_enter Tryz.func17, Tryz.ntmps17
  go_wp2_with fail
  refine (HPR.out).mono ?_
  rintro e w1 ⟨v, rfl, hO, hm1⟩
  obtain ⟨p0, hp0⟩ : ∃ p0, p0 = pairsP (l.take 24) := ⟨_, rfl⟩
  rw [← hp0] at hO
  have HP0 := Lib.hid hp0
  obtain ⟨va, vc, rfl, hv1, hv2⟩ := hO.form
  unfold maxLen at hv2
  have HP24 : Hid (p0.length ≤ 24) := Lib.hid (by have := (pairsP_ok (l.take 24)).2.2; rw [← hp0, List.length_take] at this; omega)
  have hp24 := HP24.out
  have HS1 : Hid (Own NoF w1 (w.heap.size + 2) 98 2 encP (.slice va p0.length vc) (cutK 300 0 p0) ∧ Blk w1 w.heap.size #[.slice la l.length lc, .int .u8 (E : Int), .int .u8 (K : Int)] 50 ∧ Blk w1 (w.heap.size + 1) #[.slice none 0 0, .int .i64 0, .int .i64 0] 27 ∧ Ext w w1) :=
    Lib.hid ⟨by rw [cutK_zero]; exact hO.rebase (by simp), HBX.out.ext hm1, HBR.out.ext hm1, HM0.out.trans hm1⟩
  clear hO hm1 hp0 hmin i1 i2
  go_wp2_with fail
  go_loopg [5] p0.length (fun m v5 wr => ∃ (k : Nat), k + m = p0.length ∧ v5 = .int .i64 (k : Int) ∧ Hid (Own NoF wr (w.heap.size + 2) 98 2 encP (.slice va p0.length vc) (cutK 300 k p0) ∧ Blk wr w.heap.size #[.slice la l.length lc, .int .u8 (E : Int), .int .u8 (K : Int)] 50 ∧ Blk wr (w.heap.size + 1) #[.slice none 0 0, .int .i64 0, .int .i64 0] 27 ∧ Ext w wr))
  case atStart => exact ⟨0, by omega, rfl, HS1⟩
  case round =>
    obtain ⟨k, hkm, rfl, HS⟩ := hrel
    by_cases hlt : k < p0.length
    · obtain ⟨g, c', hgs, -, -, hg3, hg4, hgf⟩ := HS.out.1.some (by intro e; have := congrArg List.length e; rw [cutK_len, List.length_nil] at this; omega)
      injection hgs with hgs hgn hgc
      subst hgs hgc
      clear hgn
      obtain ⟨x, hx⟩ : ∃ x, p0[k]? = some x := ⟨_, List.getElem?_eq_getElem hlt⟩
      have HX := Lib.hid hx
      obtain ⟨xk, xv⟩ := x
      have hsl := HS.out.1.sl encP_ok.len (by rw [cutK_len]; omega)
      have c1 := hsl.cellsAt (cutK_at (n := 300) hx) 1 _ rfl
      simp only [Nat.zero_add] at c1
      obtain ⟨z, hz⟩ : ∃ z, z = min xv.size 300 := ⟨_, rfl⟩
      have hmin : min (xv.size : Int) 300 = (z : Int) := by omega
      have hz1 : (0 : Int) ≤ (z : Int) := by omega
      have hz2 : (z : Int) ≤ (xv.size : Int) := by omega
      have hzf := hgf (k * 2 + 1)
      have hzd : wr.drew.frozen? ⟨g, k * 2 + 1, none⟩ = false := hzf
      have HZ : Hid (cutS 300 xv = xv.extract 0 z) := Lib.hid (by unfold cutS; rw [hz])
      have HS4 : Hid (Own NoF (wr.drew.setCell ⟨g, k * 2 + 1, none⟩ (.string (xv.extract 0 z))) (w.heap.size + 2) 98 2 encP (.slice (some ⟨g, 0, none⟩) p0.length vc) (cutK 300 (k + 1) p0) ∧ Blk (wr.drew.setCell ⟨g, k * 2 + 1, none⟩ (.string (xv.extract 0 z))) w.heap.size #[.slice la l.length lc, .int .u8 (E : Int), .int .u8 (K : Int)] 50 ∧ Blk (wr.drew.setCell ⟨g, k * 2 + 1, none⟩ (.string (xv.extract 0 z))) (w.heap.size + 1) #[.slice none 0 0, .int .i64 0, .int .i64 0] 27 ∧ Ext w (wr.drew.setCell ⟨g, k * 2 + 1, none⟩ (.string (xv.extract 0 z)))) := Lib.hid (by
        obtain ⟨k1, k2, k3, k4⟩ := HS.out
        refine ⟨?_, (k2.drew).set_other (p := ⟨g, k * 2 + 1, none⟩) (by show w.heap.size ≠ g; omega) _, (k3.drew).set_other (p := ⟨g, k * 2 + 1, none⟩) (by show w.heap.size + 1 ≠ g; omega) _, k4.drew.setCell (.inl (by show w.heap.size ≤ g; omega)) _⟩
        rw [← cutK_set HX.out, HZ.out]
        exact (k1.ext (Mods.refl _ wr).drew).set encP_ok.len (cutK_at (n := 300) HX.out) (j := 1) (by omega) rfl)
      have i1 : (0 : Int) ≤ (k : Int) := by omega
      have i2 : (k : Int) < (p0.length : Int) := by omega
      clear hsl hx hz hgf
      go_wp2_with fail
      go_region_law (fail)
      all_goals
        go_wp2_with fail
        go_roundg (gk - 1)
        case measure => omega
        case rel => exact ⟨k + 1, by omega, by go_num, HS4⟩
    · have hk : k = p0.length := by omega
      subst hk
      have HCT : Hid (cutK 300 p0.length p0 = tameP 300 l) := Lib.hid (by rw [cutK_all, HP0.out]; rfl)
      have b1 := HS.out.2.1.cell (o := 1) (v := .int .u8 (E : Int)) rfl
      have b2 := HS.out.2.1.cell (o := 2) (v := .int .u8 (K : Int)) rfl
      have HT := tameP_ok 300 l
      have HPO : Hid (Own NoF wr (w.heap.size + 2) 98 2 encP (.slice va p0.length vc) (tameP 300 l)) := Lib.hid (by have := HS.out.1; rw [HCT.out] at this; exact this)
      have HBC := Lib.hid (build_any (w := wr) (tameP 300 l) (.slice va p0.length vc) (HPO.out.sl encP_ok.len (by have := HT.len; omega)) HT.ok (by have := HT.len; omega) (1 + E % 3) (2 + K % 3) (by omega) (by omega) (by omega) (by omega) 5 (by omega))
      have e1 : ((1 + E % 3 : Nat) : Int) = 1 + (E : Int) % 3 := by omega
      have e2 : ((2 + K % 3 : Nat) : Int) = 2 + (K : Int) % 3 := by omega
      rw [e1, e2] at HBC
      have HT' := Lib.hid HT
      clear HT e1 e2
      go_wp2_with fail
      refine (HBC.out).mono ?_
      rintro e w4 ⟨pv, xs, rfl, hP, hxs, hm4⟩
      have rb := HS.out.2.2.1.ext hm4
      have hrl := rb.lt
      have r0 := rb.cell (o := 0) rfl
      have r1 := rb.cell (o := 1) rfl
      have r2 := rb.cell (o := 2) rfl
      have rf := rb.frozen
      have mR : Mods (fun k => k = w.heap.size + 1) w4 (((w4.setCell ⟨w.heap.size + 1, 0, none⟩ pv).setCell ⟨w.heap.size + 1, 1, none⟩ (.int .i64 ((buildA 5 (1 + E % 3) (2 + K % 3) (tameP 300 l)).2.1 : Int))).setCell ⟨w.heap.size + 1, 2, none⟩ (.int .i64 ((buildA 5 (1 + E % 3) (2 + K % 3) (tameP 300 l)).2.2 : Int))) :=
        ((((Mods.refl (fun k => k = w.heap.size + 1) w4).setCell (F := fun k => k = w.heap.size + 1) (p := ⟨w.heap.size + 1, 0, none⟩) (.inr rfl) _).setCell (F := fun k => k = w.heap.size + 1) (p := ⟨w.heap.size + 1, 1, none⟩) (.inr rfl) _).setCell (F := fun k => k = w.heap.size + 1) (p := ⟨w.heap.size + 1, 2, none⟩) (.inr rfl) _)
      have hb0 := ((rb.set 0 pv).set 1 (.int .i64 ((buildA 5 (1 + E % 3) (2 + K % 3) (tameP 300 l)).2.1 : Int))).set 2 (.int .i64 ((buildA 5 (1 + E % 3) (2 + K % 3) (tameP 300 l)).2.2 : Int))
      have HBF : Hid (Blk (((w4.setCell ⟨w.heap.size + 1, 0, none⟩ pv).setCell ⟨w.heap.size + 1, 1, none⟩ (.int .i64 ((buildA 5 (1 + E % 3) (2 + K % 3) (tameP 300 l)).2.1 : Int))).setCell ⟨w.heap.size + 1, 2, none⟩ (.int .i64 ((buildA 5 (1 + E % 3) (2 + K % 3) (tameP 300 l)).2.2 : Int))) (w.heap.size + 1) #[pv, .int .i64 ((buildA 5 (1 + E % 3) (2 + K % 3) (tameP 300 l)).2.1 : Int), .int .i64 ((buildA 5 (1 + E % 3) (2 + K % 3) (tameP 300 l)).2.2 : Int)] 27) := Lib.hid (by simpa using hb0)
      have HFIN : Hid (PgsR (((w4.setCell ⟨w.heap.size + 1, 0, none⟩ pv).setCell ⟨w.heap.size + 1, 1, none⟩ (.int .i64 ((buildA 5 (1 + E % 3) (2 + K % 3) (tameP 300 l)).2.1 : Int))).setCell ⟨w.heap.size + 1, 2, none⟩ (.int .i64 ((buildA 5 (1 + E % 3) (2 + K % 3) (tameP 300 l)).2.2 : Int))) w.heap.size pv xs ∧ Own NoF (((w4.setCell ⟨w.heap.size + 1, 0, none⟩ pv).setCell ⟨w.heap.size + 1, 1, none⟩ (.int .i64 ((buildA 5 (1 + E % 3) (2 + K % 3) (tameP 300 l)).2.1 : Int))).setCell ⟨w.heap.size + 1, 2, none⟩ (.int .i64 ((buildA 5 (1 + E % 3) (2 + K % 3) (tameP 300 l)).2.2 : Int))) w.heap.size 98 2 encP (.slice va p0.length vc) (tameP 300 l) ∧ Ext w (((w4.setCell ⟨w.heap.size + 1, 0, none⟩ pv).setCell ⟨w.heap.size + 1, 1, none⟩ (.int .i64 ((buildA 5 (1 + E % 3) (2 + K % 3) (tameP 300 l)).2.1 : Int))).setCell ⟨w.heap.size + 1, 2, none⟩ (.int .i64 ((buildA 5 (1 + E % 3) (2 + K % 3) (tameP 300 l)).2.2 : Int)))) := Lib.hid
        ⟨(hP.blk rb mR (by decide) (by decide)).rebase (by have := HS.out.2.2.2.size; omega), ((HPO.out.ext hm4).mods mR (fun g hg e => Own.notB (HPO.out.ext hm4) rb (by decide) g hg e)).rebase (by omega), (HS.out.2.2.2.trans hm4).trans' mR (fun i hi e => by omega)⟩
      have HXS := Lib.hid hxs
      obtain ⟨pa, pc, rfl, _, _⟩ := hP.row.form
      clear hP hxs hm4 mR hb0 rb
      go_wp2_with fail
      refine bodyPost_ret (results_row_tmp rfl _ _ (w.heap.size + 1) 27 #[_, _, _] _ rfl HBF.out Tryz.underlying27 rfl Tryz.treeSize) rfl ?_
      exact ⟨_, xs, _, rfl, HFIN.out.1, HXS.out, HFIN.out.2.1, HFIN.out.2.2⟩
end
end Go.Proofs.YtepafbokbfcbgaaGreatDoor
