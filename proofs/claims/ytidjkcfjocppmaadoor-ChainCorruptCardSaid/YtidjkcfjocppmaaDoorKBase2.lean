/- fault.At. | A function whose result lies in a variable R of its own: what stands in R may be turned till it returns. | Footprints: what an object may turn (P), within what is to be left alone by all else (F). Over any program. -/
import Derived.Test.YtidjkcfjocppmaaDoorKFault
import Derived.Test.YtidjkcfjocppmaaDoorKBase1
namespace Go.Proofs.YtidjkcfjocppmaaDoor
open Go.RowKit

def pgOf (pg : Int) : Int := if pg < -1 then -1 else pg
theorem at_any {F : Nat → Prop} {ad : Nat → Addr} {w : World} (hL : Env F ad w) (op : ByteArray) (pg : Int) (v : Value) (l : List Int) (k : Nat) (he : ErrC F ad w v l k) :
    Calls Tryd.prog 55 #[.string op, .int .i64 pg, v] w fun e w' => ∃ b, e = .returned (faultV b) ∧ ErrC F ad w' (faultV b) ((pgOf pg) :: l) k ∧ Ext w w' := by
  obtain ⟨t, x, rfl⟩ := he.iface
  have HF := Lib.hid (he.fault hL op (pgOf pg))
  unfold pgOf at HF ⊢
  have HL := Lib.hid hL
  clear hL he
  by_cases h : pg < -1
  · rw [if_pos h] at HF ⊢
    go_enter Tryd.func55, Tryd.ntmps55
    go_wp2
    go_ret
    exact ⟨_, rfl, HF.out, (Mods.refl _ _).alloc _⟩
  · rw [if_neg h] at HF ⊢
    go_enter Tryd.func55, Tryd.ntmps55
    go_wp2
    go_ret
    exact ⟨_, rfl, HF.out, (Mods.refl _ _).alloc _⟩

/-- an error as plain data: the pages from the outermost layer on, and the code. -/
abbrev Err := List Int × Nat
def wrapO : Option Err → Option Err
  | none => none
  | some (l, k) => some (-1 :: l, k)
/-- an error result: nil, or a fault. -/
def ErrR (F : Nat → Prop) (ad : Nat → Addr) (w : World) (ev : Value) : Option Err → Prop
  | none => ev = .nilIface
  | some (l, k) => ∃ b, ev = faultV b ∧ ErrC F ad w (faultV b) l k
section
variable {F G : Nat → Prop} {ad : Nat → Addr} {w w' : World} {ev : Value} {o : Option Err}
theorem ErrR.step (h : ErrR F ad w ev o) (m : Mods F w w') (hG : ∀ k, k < w.heap.size → ¬ F k → ¬ G k) : ErrR G ad w' ev o := by
  match o, h with
  | none, h => exact h
  | some (l, k), ⟨b, h1, h2⟩ => exact ⟨b, h1, h2.step m hG⟩
theorem ErrR.mods (h : ErrR F ad w ev o) (m : Mods F w w') : ErrR F ad w' ev o := h.step m (fun _ _ h => h)
theorem ErrR.ext (h : ErrR F ad w ev o) (m : Ext w w') : ErrR F ad w' ev o := h.mods m.ext
end
theorem wrap_res {F : Nat → Prop} {ad : Nat → Addr} {w : World} (hL : Env F ad w) (op : ByteArray) (ev : Value) (o : Option Err) (he : ErrR F ad w ev o) :
    Calls Tryd.prog 40 #[.string op, ev] w fun e w' => ∃ ev', e = .returned ev' ∧ ErrR F ad w' ev' (wrapO o) ∧ Ext w w' := by
  match o, he with
  | none, he =>
    cases he
    exact (wrap_nil op w).mono fun e w' ⟨h1, h2⟩ => ⟨_, h1, rfl, h2 ▸ Mods.refl _ _⟩
  | some (l, k), ⟨b, h1, h2⟩ =>
    subst h1
    exact (wrap_any hL op _ l k h2).mono fun e w' ⟨b', h3, h4, h5⟩ => ⟨_, h3, ⟨b', rfl, h4⟩, h5⟩
end Go.Proofs.YtidjkcfjocppmaaDoor
namespace Go.Proofs.YtidjkcfjocppmaaDoor
open Go.RowKit

def plusR (F : Nat → Prop) (R : Nat) : Nat → Prop := fun k => F k ∨ k = R
section
variable {F : Nat → Prop} {ad : Nat → Addr} {w w' : World} {R : Nat}
theorem Env.withR (h : Env F ad w) (m : Ext w w') (hz : w.heap.size < w'.heap.size) : Env (plusR F w.heap.size) ad w' :=
  h.step m.ext (fun k hk hF hG => by rcases hG with g | g; exact hF g; omega) (fun k hk => by
    rcases hk with g | g
    · exact Nat.lt_trans (h.lt k g) hz
    · omega)
theorem Sl.withR {α : Type} {sz : Nat} {enc : α → List Value} {v : Value} {l : List α} (h : Sl F w sz enc v l) (m : Ext w w') : Sl (plusR F w.heap.size) w' sz enc v l :=
  h.step m.ext (fun k hk hF hG => by rcases hG with g | g; exact hF g; omega)
theorem ErrC.unR {v : Value} {l : List Int} {k : Nat} (h : ErrC (plusR F R) ad w v l k) (m : Mods (plusR F R) w w') : ErrC F ad w' v l k := h.step m (fun _ _ hF hG => hF (.inl hG))
theorem ErrR.unR {v : Value} {o : Option Err} (h : ErrR (plusR F R) ad w v o) (m : Mods (plusR F R) w w') : ErrR F ad w' v o := h.step m (fun _ _ hF hG => hF (.inl hG))
theorem Sl.unR {α : Type} {sz : Nat} {enc : α → List Value} {v : Value} {l : List α} (h : Sl (plusR F R) w sz enc v l) (m : Mods (plusR F R) w w') : Sl F w' sz enc v l := h.step m (fun _ _ hF hG => hF (.inl hG))
end
end Go.Proofs.YtidjkcfjocppmaaDoor
namespace Go.Proofs.YtidjkcfjocppmaaDoor
open Go.RowKit

/-- a step turns P at most; behind it the footprint is P': old blocks of P, or new ones. -/
structure Stp (P P' : Nat → Prop) (w w' : World) : Prop where
  mods : Mods P w w'
  old : ∀ k, k < w.heap.size → P' k → P k
  bd : Bd P' w'
section
variable {P P' P1 P2 Q F F' F1 F2 : Nat → Prop} {ad : Nat → Addr} {w w' w1 w2 : World}
theorem Stp.refl (h : Bd P w) : Stp P P w w := ⟨Mods.refl _ _, fun _ _ h => h, h⟩
theorem Stp.trans (a : Stp P P1 w w1) (b : Stp P1 P2 w1 w2) : Stp P P2 w w2 :=
  ⟨a.mods.trans' b.mods (fun i hi h => a.old i hi h), fun k hk h => a.old k hk (b.old k (Nat.lt_of_lt_of_le hk a.mods.size) h), b.bd⟩
theorem Stp.ext (h : Bd P w) (m : Ext w w') : Stp P P w w' := ⟨m.ext, fun _ _ h => h, h.mods m⟩
theorem Stp.same (h : Bd P w) (m : Mods P w w') : Stp P P w w' := ⟨m, fun _ _ h => h, h.mods m⟩
theorem Stp.frame (s : Stp P P' w w') (hQ : Bd Q w) : Stp (fun k => P k ∨ Q k) (fun k => P' k ∨ Q k) w w' :=
  ⟨s.mods.mono (fun _ h => .inl h), fun k hk h => h.elim (fun h => .inl (s.old k hk h)) .inr, fun k h => h.elim (fun h => s.bd k h) (fun h => Nat.lt_of_lt_of_le (hQ k h) s.mods.size)⟩
/-- .. and within F: what is left alone behind the step is F'. -/
structure Nxt (P P' F F' : Nat → Prop) (ad : Nat → Addr) (w w' : World) : Prop where
  stp : Stp P P' w w'
  sub : ∀ k, P' k → F' k
  grow : ∀ k, F k → F' k
  oldF : ∀ k, k < w.heap.size → F' k → F k
  env : Env F' ad w'
theorem Nxt.trans (a : Nxt P P1 F F1 ad w w1) (b : Nxt P1 P2 F1 F2 ad w1 w2) : Nxt P P2 F F2 ad w w2 :=
  ⟨a.stp.trans b.stp, b.sub, fun k h => b.grow k (a.grow k h), fun k hk h => a.oldF k hk (b.oldF k (Nat.lt_of_lt_of_le hk a.stp.mods.size) h), b.env⟩
theorem Nxt.ext (hL : Env F ad w) (hP : ∀ k, P k → F k) (m : Ext w w') : Nxt P P F F ad w w' :=
  ⟨Stp.ext (fun k h => hL.lt k (hP k h)) m, hP, fun _ h => h, fun _ _ h => h, hL.mods m.ext⟩
theorem Nxt.refl (hL : Env F ad w) (hP : ∀ k, P k → F k) : Nxt P P F F ad w w := Nxt.ext hL hP (Mods.refl _ _)
theorem Nxt.same (hL : Env F ad w) (hP : ∀ k, P k → F k) (m : Mods P w w') : Nxt P P F F ad w w' :=
  ⟨Stp.same (fun k h => hL.lt k (hP k h)) m, hP, fun _ h => h, fun _ _ h => h, hL.mods (m.mono hP)⟩
/-- the new footprint joins what is left alone. -/
theorem Nxt.of (hL : Env F ad w) (hP : ∀ k, P k → F k) (s : Stp P P' w w') : Nxt P P' F (fun k => F k ∨ P' k) ad w w' :=
  ⟨s, fun _ h => .inr h, fun _ h => .inl h, fun k hk h => h.elim id (fun h => hP k (s.old k hk h)),
    hL.step (s.mods.mono hP) (fun k hk hn h => hn (h.elim id (fun h => hP k (s.old k hk h)))) (fun k h => h.elim (fun h => Nat.lt_of_lt_of_le (hL.lt k h) s.mods.size) (fun h => s.bd k h))⟩
/-- a part of a greater thing takes the step. -/
theorem Nxt.part (n : Nxt P P' F F' ad w w') (hQ : ∀ k, Q k → F k) (hL : Env F ad w) : Nxt (fun k => P k ∨ Q k) (fun k => P' k ∨ Q k) F F' ad w w' :=
  ⟨n.stp.frame (fun k h => hL.lt k (hQ k h)), fun k h => h.elim (n.sub k) (fun h => n.grow k (hQ k h)), n.grow, n.oldF, n.env⟩
theorem Nxt.subP (n : Nxt P P' F F' ad w w') (hPF : ∀ k, P k → F k) : Mods F w w' := n.stp.mods.mono hPF
theorem Nxt.sl {α : Type} {sz : Nat} {enc : α → List Value} {v : Value} {l : List α} (n : Nxt P P' F F' ad w w') (hPF : ∀ k, P k → F k) (h : Sl F w sz enc v l) : Sl F' w' sz enc v l :=
  h.step (n.subP hPF) (fun k hk hn h' => hn (n.oldF k hk h'))
theorem Nxt.err {v : Value} {o : Option Err} (n : Nxt P P' F F' ad w w') (hPF : ∀ k, P k → F k) (h : ErrR F ad w v o) : ErrR F' ad w' v o :=
  h.step (n.subP hPF) (fun k hk hn h' => hn (n.oldF k hk h'))
theorem Nxt.errc {v : Value} {l : List Int} {k : Nat} (n : Nxt P P' F F' ad w w') (hPF : ∀ k, P k → F k) (h : ErrC F ad w v l k) : ErrC F' ad w' v l k :=
  h.step (n.subP hPF) (fun k hk hn h' => hn (n.oldF k hk h'))
theorem Nxt.blk {b : Nat} {c : Array Value} {t : TypeId} (n : Nxt P P' F F' ad w w') (h : Blk w b c t) (hb : ¬ P b) : Blk w' b c t := h.mods n.stp.mods hb
/-- a block that is not of P is not of P' either. -/
theorem Nxt.not {b : Nat} (n : Nxt P P' F F' ad w w') (hb : b < w.heap.size) (h : ¬ P b) : ¬ P' b := fun h' => h (n.stp.old b hb h')
theorem Nxt.size (n : Nxt P P' F F' ad w w') : w.heap.size ≤ w'.heap.size := n.stp.mods.size
theorem Sl.anti' {α : Type} {sz : Nat} {enc : α → List Value} {v : Value} {l : List α} (h : Sl F w sz enc v l) (hG : ∀ k, Q k → F k) : Sl Q w sz enc v l := h.anti (fun k _ => hG k)
theorem Env.anti (h : Env F ad w) (hG : ∀ k, Q k → F k) : Env Q ad w := h.step (Mods.refl _ _) (fun k _ hn hq => hn (hG k hq)) (fun k hk => h.lt k (hG k hk))
theorem ErrR.anti {v : Value} {o : Option Err} (h : ErrR F ad w v o) (hG : ∀ k, Q k → F k) : ErrR Q ad w v o := h.step (Mods.refl _ _) (fun k _ hn hq => hn (hG k hq))
end
end Go.Proofs.YtidjkcfjocppmaaDoor
