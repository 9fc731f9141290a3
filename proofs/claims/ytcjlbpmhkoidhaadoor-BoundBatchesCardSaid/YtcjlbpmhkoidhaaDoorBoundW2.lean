/- Walks of layer 19's program side, on: check, most, Most, Least, Depth. -/
import Derived.Test.YtcjlbpmhkoidhaaDoorBoundW
import Derived.Test.YtcjlbpmhkoidhaaDoorShelf
namespace Go.Proofs.YtcjlbpmhkoidhaaDoor
open Go.RowKit

/-- an error result: none (code 0), or a fault of a code. -/
def IsRes (F : Nat → Prop) (ad : Nat → Addr) (w : World) (c : Nat) (ev : Value) : Prop :=
  (c = 0 ∧ ev = .nilIface) ∨ (c ≠ 0 ∧ ∃ b l, ev = faultV b ∧ ErrC F ad w (faultV b) l c)
theorem IsRes.nil (F : Nat → Prop) (ad : Nat → Addr) (w : World) : IsRes F ad w 0 .nilIface := .inl ⟨rfl, rfl⟩

theorem IsRes.step {F G : Nat → Prop} {ad : Nat → Addr} {w w' : World} {c : Nat} {ev : Value} (h : IsRes F ad w c ev) (m : Mods F w w') (hG : ∀ k, k < w.heap.size → ¬ F k → ¬ G k) : IsRes G ad w' c ev := by
  rcases h with h | ⟨hc, b, l, rfl, hE⟩
  · exact .inl h
  · exact .inr ⟨hc, b, l, rfl, hE.step m hG⟩
theorem IsRes.mods {F : Nat → Prop} {ad : Nat → Addr} {w w' : World} {c : Nat} {ev : Value} (h : IsRes F ad w c ev) (m : Mods F w w') : IsRes F ad w' c ev := h.step m (fun _ _ h => h)

/-- what check answers. -/
def ChkPost (F : Nat → Prop) (ad : Nat → Addr) (w : World) (c : Nat) (e : Ending) (w' : World) : Prop :=
  ∃ ev, e = .returned ev ∧ IsRes F ad w' c ev ∧ Ext w w'

theorem all_right {ls : List (List PairB)} {k : Nat} (h : k < ls.length) (hr : rightP ls[k] = false) : ls.all rightP = false := by
  rw [List.all_eq_false]; exact ⟨ls[k], by simp, by simp [hr]⟩

set_option maxHeartbeats 1000000 in
theorem check_any {F : Nat → Prop} {ad : Nat → Addr} {w : World} (hL : Env F ad w) (op : ByteArray) (size : Int) (lv : Value) (vs : List Value) (ls : List (List PairB))
    (hlv : Sl F w 1 encV lv vs) (hlen : vs.length = ls.length) (hvs : ∀ (i : Nat) (v : Value) (l : List PairB), vs[i]? = some v → ls[i]? = some l → Sl F w 2 encP v l) :
    Calls Tryd.prog 18 #[.string op, .int .i64 size, lv] w (ChkPost F ad w (codeN size ls)) := by
  have g1 := hL.c1
  have g2 := hL.c2
  by_cases hs : size < 256 ∨ 1024 < size
  · have hc : Hid (codeN size ls = 2) := Lib.hid (by unfold codeN; rw [if_pos hs])
    have HL := Lib.hid hL
    by_cases hs1 : size < 256
    all_goals
      try have hs2 : 1024 < size := by omega
      clear hs hlv hlen hvs hL
      go_enter Tryd.func18, Tryd.ntmps18
      go_wp2_with (go_at_call 29; refine (new_any HL.out op _ _ 2 (.sent 2 (by omega) (by omega))).mono ?_; rintro e w' ⟨b, rfl, hE, hM⟩)
      go_ret
      exact ⟨_, rfl, by rw [hc.out]; exact .inr ⟨by omega, b, _, rfl, hE⟩, hM⟩
  · obtain ⟨h256, h1024⟩ : 256 ≤ size ∧ size ≤ 1024 := by omega
    have hcd : Hid (codeN size ls = if ls.all rightP then 0 else 1) := Lib.hid (by unfold codeN; rw [if_neg hs])
    clear hs
    obtain ⟨a, cap, rfl, h1, h2, h3, h4⟩ := hlv
    unfold maxLen at h2
    have HV := Lib.hid hvs
    have HL := Lib.hid hL
    have HLN := Lib.hid hlen
    have hvl : vs.length ≤ 140737488355328 := h3
    clear hvs hL hlen
    go_enter Tryd.func18, Tryd.ntmps18
    go_wp2
    go_loopg [23] vs.length (fun m i wr => ∃ k : Nat, k + m = vs.length ∧ i = .int .i64 k ∧ Hid (∀ j (h : j < ls.length), j < k → rightP ls[j] = true) ∧ Ext w wr)
    case atStart => exact ⟨0, by omega, rfl, Lib.hid (fun j _ h => by omega), Mods.refl _ _⟩
    case round =>
      obtain ⟨k, hk, rfl, HR, hm⟩ := hrel
      by_cases hlt : k < vs.length
      · obtain ⟨b, off, rfl, hb, hF, hc⟩ := Sl.at h4 hm (fun _ _ f => f.elim) k hlt
        have c0 := hc 0 _ rfl
        simp only [Nat.mul_one, Nat.add_zero] at c0
        clear hc h4
        have hlt2 : k < ls.length := by have := HLN.out; omega
        have hin := HV.out k vs[k] ls[k] (by simp) (by simp)
        generalize hv0 : vs[k] = v0 at *
        generalize hl0 : ls[k] = l at *
        obtain ⟨a2, cap2, rfl, i1, i2, i3, i4⟩ := hin
        unfold maxLen at i2
        have HHV := Lib.hid hv0
        have HHL := Lib.hid hl0
        clear hv0 hl0
        go_wp2
        obtain ⟨wo, rfl⟩ : ∃ wo : World, wo = wr := ⟨_, rfl⟩
        obtain ⟨gko, rfl⟩ : ∃ g : Nat, g = gk := ⟨_, rfl⟩
        go_loopg [9, 29] l.length (fun m t i wr => ∃ q : Nat, ∃ lk : ByteArray, q + m = l.length ∧ i = .int .i64 q ∧ t = .string lk ∧ Hid (rightFrom lk (l.drop q) = rightP l) ∧ Ext w wr)
        case atStart => exact ⟨0, _, by omega, rfl, rfl, Lib.hid rfl, hm⟩
        case round =>
          obtain ⟨q, lk, hq, rfl, rfl, HQ, hm⟩ := hrel
          by_cases hqt : q < l.length
          · obtain ⟨b2, off2, rfl, hb2, hF2, hc2⟩ := Sl.atE i4 hm q hqt
            have d0 := hc2 0 _ rfl
            have d1 := hc2 1 _ rfl
            simp only [Nat.add_zero] at d0
            clear hc2 i4
            have hrd := HQ.out
            rw [rightFrom_drop lk l q hqt] at hrd
            have HRD := Lib.hid hrd
            clear hrd HQ
            have HLr := Lib.hid (HL.out.mods (Mods.ext hm))
            have g1r := HLr.out.c1
            have hgz : 1 < wr.heap.size := Nat.lt_of_lt_of_le (by decide) HLr.out.size
            have hbad : Hid (rightP l = false → codeN size ls = 1) := Lib.hid (fun hr => by rw [hcd.out, all_right hlt2 (by rw [HHL.out]; exact hr)]; rfl)
            have hle : (Op.bytesLess l[q].1.toList lk.toList || l[q].1.toList == lk.toList) = leS l[q].1 lk := rfl
            cases hkb : keyB l[q].1
            · have hf := Lib.hid (hbad.out (by rw [← HRD.out, hkb]; rfl))
              clear hle
              go_wp2_with (first | (go_at_call 32; refine (key_any _ _).mono ?_; rintro e w' ⟨rfl, rfl⟩) | (go_at_call 29; refine (new_any (HLr.out.mods ((Mods.refl F _).alloc _)) op _ _ 1 (.sent 1 (by omega) (by omega))).mono ?_; rintro e w' ⟨b, rfl, hE, hM⟩))
              go_ret
              exact ⟨_, rfl, by rw [hf.out]; exact .inr ⟨by omega, _, _, rfl, hE⟩, (hm.alloc _).trans hM⟩
            · cases hlb : leS l[q].1 lk
              · rw [hlb] at hle
                by_cases hsz : l[q].2.size ≤ 4096
                · have hnext : Hid (rightFrom l[q].1 (l.drop (q + 1)) = rightP l) := Lib.hid (by rw [← HRD.out, hkb, hlb]; simp [hsz])
                  go_wp2_with (first | (go_at_call 32; refine (key_any _ _).mono ?_; rintro e w' ⟨rfl, rfl⟩))
                  go_roundg (gk - 1)
                  case measure => omega
                  case rel => exact ⟨q + 1, _, by omega, by go_num, rfl, hnext, hm.alloc _⟩
                · have hf := Lib.hid (hbad.out (by rw [← HRD.out, hkb, hlb]; simp [hsz]))
                  go_wp2_with (first | (go_at_call 32; refine (key_any _ _).mono ?_; rintro e w' ⟨rfl, rfl⟩) | (go_at_call 29; refine (new_any (HLr.out.mods ((Mods.refl F _).alloc _)) op _ _ 1 (.sent 1 (by omega) (by omega))).mono ?_; rintro e w' ⟨b, rfl, hE, hM⟩))
                  go_ret
                  exact ⟨_, rfl, by rw [hf.out]; exact .inr ⟨by omega, _, _, rfl, hE⟩, (hm.alloc _).trans hM⟩
              · rw [hlb] at hle
                have hf := Lib.hid (hbad.out (by rw [← HRD.out, hkb, hlb]; rfl))
                go_wp2_with (first | (go_at_call 32; refine (key_any _ _).mono ?_; rintro e w' ⟨rfl, rfl⟩) | (go_at_call 29; refine (new_any (HLr.out.mods ((Mods.refl F _).alloc _)) op _ _ 1 (.sent 1 (by omega) (by omega))).mono ?_; rintro e w' ⟨b, rfl, hE, hM⟩))
                go_ret
                exact ⟨_, rfl, by rw [hf.out]; exact .inr ⟨by omega, _, _, rfl, hE⟩, (hm.alloc _).trans hM⟩
          · have hqe : q = l.length := by omega
            have hrl : Hid (rightP l = true) := Lib.hid (by rw [← HQ.out, hqe, List.drop_length]; rfl)
            have HR2 : Hid (∀ j (h : j < ls.length), j < k + 1 → rightP ls[j] = true) := Lib.hid (fun j h hj => by
              by_cases e : j = k
              · subst e; rw [HHL.out]; exact hrl.out
              · exact HR.out j h (by omega))
            clear HQ hqe HR
            go_wp2
            go_roundg (gko - 1)
            case measure => omega
            case rel => exact ⟨k + 1, by omega, by go_num, HR2, hm⟩
      · have hall : Hid (codeN size ls = 0) := Lib.hid (by
          rw [hcd.out, if_pos]
          rw [List.all_eq_true]
          intro x hx
          obtain ⟨j, hj, rfl⟩ := List.getElem_of_mem hx
          exact HR.out j hj (by have := HLN.out; omega))
        clear HR h4
        go_wp2
        go_ret
        exact ⟨_, rfl, by rw [hall.out]; exact IsRes.nil _ _ _, hm⟩
end Go.Proofs.YtcjlbpmhkoidhaaDoor
