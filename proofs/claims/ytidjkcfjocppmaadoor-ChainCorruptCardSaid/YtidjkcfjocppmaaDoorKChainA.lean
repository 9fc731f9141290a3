/- chain.size, check, giveAll, takeAll. | Rows of a function's own beside a pager: LocR. -/
import Derived.Test.YtidjkcfjocppmaaDoorKPager
import Derived.Test.YtidjkcfjocppmaaDoorKNeedD
namespace Go.Proofs.YtidjkcfjocppmaaDoor
open Go.RowKit

def pgV (c s gen : Nat) : Value := .agg #[.pointer (some ⟨c, 0, none⟩), .pointer (some ⟨s, 0, none⟩), .int .u64 (gen : Int)]
/-- why there is no such chain. -/
def chCheck (n : Int) : Option Err := if n ≤ 24 ∨ 4096 < n then some ([-1], 2) else none
def giveOk : List Nat → List Nat → Prop
  | _, [] => True
  | l, id :: r => (spGive l id).2 = none ∧ giveOk (spGive l id).1 r
def giveL : List Nat → List Nat → List Nat
  | l, [] => l
  | l, id :: r => giveL (spGive l id).1 r
def giveG : GA → List Nat → GA
  | G, [] => G
  | G, id :: r => giveG (G.drop id) r
theorem giveG_snoc : ∀ (r : List Nat) (G : GA) (id : Nat), giveG G (r ++ [id]) = (giveG G r).drop id
  | [], _, _ => rfl
  | x :: r, G, id => by rw [List.cons_append, giveG, giveG_snoc r, giveG]
theorem giveL_snoc : ∀ (r : List Nat) (l : List Nat) (id : Nat), giveL l (r ++ [id]) = (spGive (giveL l r) id).1
  | [], _, _ => rfl
  | x :: r, l, id => by rw [List.cons_append, giveL, giveL_snoc r, giveL]
theorem giveOk_at : ∀ (r : List Nat) (l : List Nat) (k id : Nat), giveOk l r → r[k]? = some id → (spGive (giveL l (r.take k)) id).2 = none
  | [], _, k, _, _, h => by simp at h
  | x :: r, l, 0, id, h, hk => by simp at hk; subst hk; exact h.1
  | x :: r, l, k + 1, id, h, hk => by
    rw [List.take_succ_cons, giveL]
    exact giveOk_at r _ k id h.2 (by simpa using hk)
/-- so many blocks, or none. -/
def takeA : Nat → List Nat → Option (List Nat × List Nat)
  | 0, l => some ([], l)
  | n + 1, l => match spFree l with
    | none => none
    | some i => match takeA n (l.set i 2) with
      | none => none
      | some (ids, l') => some (i :: ids, l')

section
variable {P P' F F' : Nat → Prop} {ad : Nat → Addr} {w w' : World} {c s : Nat} {G G' : GA} {l l' : List Nat}
theorem chSize_any (h : PgR F w P c s G l) (gen : Nat) : Calls Tryd.prog 38 #[pgV c s gen] w fun e w' => e = .returned (.int .i64 (G.size : Int)) ∧ Ext w w' := by
  unfold pgV
  have m0 : Ext w (w.alloc (.cells #[.pointer (some ⟨c, 0, none⟩), .pointer (some ⟨s, 0, none⟩), .int .u64 (gen : Int)] 29)) := (Mods.refl _ w).alloc _
  obtain ⟨d, HH, h1, h2⟩ := pgDisk (h.at m0)
  have gf1 := Tryd.geoF1
  have H1 := Lib.hid h1
  have H2 := Lib.hid h2
  have M0 := Lib.hid m0
  clear h1 h2 h m0
  go_enter Tryd.func38, Tryd.ntmps38
  go_wp2_with fail
  refine H1.out.mono ?_
  rintro e w1 ⟨rfl, rfl⟩
  go_wp2_with fail
  refine (H2.out _ (Mods.refl _ _)).mono ?_
  rintro e w2 ⟨rfl, hm⟩
  have HM := Lib.hid hm
  clear hm
  go_wp2_with fail
  go_ret
  exact ⟨rfl, M0.out.trans HM.out⟩

theorem chCheck_any (hL : Env F ad w) (op : ByteArray) (gen : Nat) (n : Int) : Calls Tryd.prog 37 #[.string op, pgV c s gen, .int .i64 n] w fun e w' => ∃ ev, e = .returned ev ∧ ErrR F ad w' ev (chCheck n) ∧ Ext w w' := by
  unfold pgV
  have m0 : Ext w (w.alloc (.cells #[.pointer (some ⟨c, 0, none⟩), .pointer (some ⟨s, 0, none⟩), .int .u64 (gen : Int)] 29)) := (Mods.refl _ w).alloc _
  have hL0 := hL.mods m0.ext
  have g2 := hL.c2
  have hsz := hL.size
  have g2' : 1 < w.heap.size := by omega
  have HL := Lib.hid hL0
  have M0 := Lib.hid m0
  clear hL hL0 m0
  by_cases h1 : n ≤ 24
  · have HR : Hid (chCheck n = some ([-1], 2)) := Lib.hid (by unfold chCheck; rw [if_pos (.inl h1)])
    go_enter Tryd.func37, Tryd.ntmps37
    go_wp2_with fail
    refine (new_any HL.out _ _ [] 2 (.sent 2 (by decide) (by decide))).mono ?_
    rintro e w1 ⟨f, rfl, hE, hm⟩
    have HE := Lib.hid hE
    have HM := Lib.hid hm
    clear hE hm
    go_wp2_with fail
    go_ret
    exact ⟨_, rfl, by rw [HR.out]; exact ⟨f, rfl, HE.out⟩, M0.out.trans HM.out⟩
  · by_cases h2 : 4096 < n
    · have HR : Hid (chCheck n = some ([-1], 2)) := Lib.hid (by unfold chCheck; rw [if_pos (.inr h2)])
      go_enter Tryd.func37, Tryd.ntmps37
      go_wp2_with fail
      refine (new_any HL.out _ _ [] 2 (.sent 2 (by decide) (by decide))).mono ?_
      rintro e w1 ⟨f, rfl, hE, hm⟩
      have HE := Lib.hid hE
      have HM := Lib.hid hm
      clear hE hm
      go_wp2_with fail
      go_ret
      exact ⟨_, rfl, by rw [HR.out]; exact ⟨f, rfl, HE.out⟩, M0.out.trans HM.out⟩
    · have HR : Hid (chCheck n = none) := Lib.hid (by unfold chCheck; rw [if_neg (by omega)])
      go_enter Tryd.func37, Tryd.ntmps37
      go_wp2_with fail
      go_ret
      exact ⟨_, rfl, by rw [HR.out]; rfl, M0.out⟩
end
end Go.Proofs.YtidjkcfjocppmaaDoor
namespace Go.Proofs.YtidjkcfjocppmaaDoor
open Go.RowKit

def encN (n : Nat) : List Value := [.int .i64 (n : Int)]
theorem encN_ok : EncOk encN 1 := ⟨fun _ => rfl, by intro x u hu; simp [encN] at hu; subst hu; rfl⟩
theorem Tryd.elI : ElT Tryd.prog 42 3 (.int .i64 0) 1 8 := ⟨Tryd.underlying42, Tryd.mkI, rfl, by decide, by decide⟩

/-- v = append(v, s...), and just what has turned. -/
theorem wpl_app2 {P : Program} {α : Type} {F G : Nat → Prop} {w : World} {t e : TypeId} {z : Value} {sz bytes : Nat} {enc : α → List Value} (T : ElT P t e z sz bytes) (E : EncOk enc sz)
    {ops : Array Oper} {rest : List Oper} {o : Oper} {a : Act} {Q : Exit → Act → World → Prop} (hgd : o.guard = none) (sx x : Operand)
    (ho : o.op = .call { callee := .builtin .append, args := #[sx, x], argTypes := #[t, t] })
    (base : Nat) (v s : Value) (l m : List α) (hv : a.eval sx = v) (hx : a.eval x = s) (hown : Own F w base e sz enc v l) (hs : Sl G w sz enc s m) (hb : (l.length + m.length) * bytes ≤ 140737488355328) (hbase : base ≤ w.heap.size) (hn : ¬ F w.heap.size)
    (h : ∀ a' c' w', Own F w' base e sz enc (.slice a' (l.length + m.length) c') (l ++ m) → Mods (fun k => v.ownBlock = some k) w w' →
      ((Value.slice a' (l.length + m.length) c').ownBlock = v.ownBlock ∨ (Value.slice a' (l.length + m.length) c').ownBlock = some w.heap.size) → wpList P ops Q rest (a.put o.dst (.slice a' (l.length + m.length) c')) w') :
    wpList P ops Q (o :: rest) a w := by
  obtain ⟨i, hi, hz, hs1, hb1⟩ := info3 T.info
  refine wpl_append_sl hgd sx x t ho base e i z sz bytes T.under hi hz hs1 hb1 T.zs T.sz0 enc E.len E.one v s l m hv hx hown hs hb T.by0 hbase hn ?_
  intro a' c' w' h1 h2 h3
  exact h a' c' w' h1 (Mods.of_grown h2) h3

/-- a row of the call's own, that the call alone may turn. -/
def LocR {α : Type} (w0 : World) (F P : Nat → Prop) (w : World) (e : TypeId) (sz : Nat) (enc : α → List Value) (v : Value) (l : List α) : Prop :=
  Own (fun _ => False) w w0.heap.size e sz enc v l ∧ ∀ g, v.ownBlock = some g → F g ∧ ¬ P g
section
variable {α : Type} {P0 P P' F0 F F' : Nat → Prop} {ad : Nat → Addr} {w0 w w' : World} {c s : Nat} {G G' : GA} {l l' : List Nat} {e : TypeId} {sz : Nat} {enc : α → List Value} {v v' : Value} {x x' : List α}
theorem LocR.nxt (h : LocR w0 F P w e sz enc v x) (n : Nxt P P' F F' ad w w') : LocR w0 F' P' w' e sz enc v x :=
  ⟨h.1.mods n.stp.mods (fun g hg => (h.2 g hg).2), fun g hg => ⟨n.grow g (h.2 g hg).1, n.not (h.1.lt g hg).2 (h.2 g hg).2⟩⟩
theorem LocR.ext (h : LocR w0 F P w e sz enc v x) (m : Ext w w') : LocR w0 F P w' e sz enc v x := ⟨h.1.ext m, h.2⟩
theorem LocR.nil (w0 : World) (F P : Nat → Prop) (w : World) (e : TypeId) (sz : Nat) (enc : α → List Value) : LocR w0 F P w e sz enc (.slice none 0 0) ([] : List α) :=
  ⟨Own.nil _ _ _ _ _ _, fun g hg => by simp [Value.ownBlock] at hg⟩
def plusV (F : Nat → Prop) (v : Value) : Nat → Prop := fun k => F k ∨ v.ownBlock = some k
theorem LocR.sl (h : LocR w0 F P w e sz enc v x) (henc : ∀ y, (enc y).length = sz) (hl : x.length ≤ 140737488355328) : Sl (fun _ => False) w sz enc v x := h.1.sl henc hl
/-- the row has been appended to. -/
theorem LocR.app (n : Nxt P0 P F0 F ad w0 w) (h : LocR w0 F P w e sz enc v x) (ho : Own (fun _ => False) w' w0.heap.size e sz enc v' x') (m : Mods (fun k => v.ownBlock = some k) w w') {K : Nat} (hat : v'.ownBlock = v.ownBlock ∨ v'.ownBlock = some K) (hK : w.heap.size ≤ K) :
    Nxt P0 P F0 (plusV F v') ad w0 w' ∧ LocR w0 (plusV F v') P w' e sz enc v' x' := by
  have hv := fun g (hg : v.ownBlock = some g) => h.1.lt g hg
  have hb : ∀ k, v'.ownBlock = some k → k < w'.heap.size := fun k hk => (ho.lt k hk).2
  have h0 : ∀ k, v'.ownBlock = some k → w0.heap.size ≤ k := fun k hk => (ho.lt k hk).1
  refine ⟨⟨⟨n.stp.mods.trans' m (fun i hi e => by have := (hv i e).1; omega), n.stp.old, fun k hk => Nat.lt_of_lt_of_le (n.stp.bd k hk) m.size⟩, fun k hk => .inl (n.sub k hk), fun k hk => .inl (n.grow k hk), fun k hk hf => ?_, ?_⟩, ho, fun g hg => ⟨.inr hg, ?_⟩⟩
  · rcases hf with hf | hf
    · exact n.oldF k hk hf
    · have := h0 k hf; omega
  · exact n.env.step (m.mono (fun k hk => (h.2 k hk).1)) (fun k hk hn hf => by
      rcases hf with hf | hf
      · exact hn hf
      · rcases hat with e | e
        · exact hn (h.2 k (e ▸ hf)).1
        · rw [e] at hf; injection hf with hf; omega) (fun k hf => hf.elim (fun hf => Nat.lt_of_lt_of_le (n.env.lt k hf) m.size) (hb k))
  · rcases hat with e | e
    · exact (h.2 g (e ▸ hg)).2
    · rw [e] at hg; injection hg with hg
      exact fun hp => by have := n.stp.bd g hp; omega
theorem CaR.plus {d sb : Nat} {bvs : List Value} {Pd : Nat → Prop} {C : CaA} (h : CaR F w d c sb bvs Pd C) {Q : Nat → Prop} (m : Mods Q w w') (hQ : ∀ k, caF c sb Pd k → ¬ Q k) (hF : ∀ k, Q k → F k) (hG : ∀ k, k < w.heap.size → ¬ F k → ¬ F' k) : CaR F' w' d c sb bvs Pd C :=
  ⟨h.own.mods m (hQ c (.inr (.inl rfl))), h.row.at m (hQ sb (.inr (.inr rfl))), h.lenB, h.n64, fun i s bv h1 h2 => (h.body i s bv h1 h2).step (m.mono hF) hG, h.disk.far m (fun k hk => hQ k (.inl hk)), h.cd, h.sd, h.ne⟩
theorem PgR.plus (h : PgR F w P c s G l) {Q : Nat → Prop} (m : Mods Q w w') (hQ : ∀ k, P k → ¬ Q k) (hF : ∀ k, Q k → F k) (hG : ∀ k, k < w.heap.size → ¬ F k → ¬ F' k) : PgR F' w' P c s G l := by
  obtain ⟨d, sb, bvs, Pd, b2, C, h1, h2, h3, h4, h5, h6, h7⟩ := h
  exact ⟨d, sb, bvs, Pd, b2, C, h1.plus m (fun k hk => hQ k ((h6 k).2 (.inl hk))) hF hG, h2, h3, h4, h5.mods m (hQ s ((h6 s).2 (.inr (.inl rfl)))) (hQ b2 ((h6 b2).2 (.inr (.inr rfl)))), h6, h7⟩
/-- .. and the pager is as it was. -/
theorem PgR.app (hp : PgR F w P c s G l) (h : LocR w0 F P w e sz enc v x) (m : Mods (fun k => v.ownBlock = some k) w w') {K : Nat} (hat : v'.ownBlock = v.ownBlock ∨ v'.ownBlock = some K) (hK : w.heap.size ≤ K) : PgR (plusV F v') w' P c s G l :=
  hp.plus m (fun k hk e => (h.2 k e).2 hk) (fun k hk => (h.2 k hk).1) (fun k hk hn hf => by
    rcases hf with hf | hf
    · exact hn hf
    · rcases hat with e | e
      · exact hn (h.2 k (e ▸ hf)).1
      · rw [e] at hf; injection hf with hf; omega)
end
end Go.Proofs.YtidjkcfjocppmaaDoor
