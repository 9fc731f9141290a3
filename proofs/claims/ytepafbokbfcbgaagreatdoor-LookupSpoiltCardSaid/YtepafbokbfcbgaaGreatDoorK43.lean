/- What is known of a pager of a tree of which one page was spoilt. Plain. -/
import Derived.Test.YtepafbokbfcbgaaGreatDoorK42
import Derived.Test.YtepafbokbfcbgaaGreatDoorK24
namespace Go.Proofs.YtepafbokbfcbgaaGreatDoor
open Go.RowKit
theorem fit_puts2 {n : Nat} (hn : n ≤ 256) {ps : List PageA} (h : ∀ (j : Nat) (p : PageA), ps[j]? = some p → p.id = ((2 + j : Nat) : Int) ∧ p.gen < 18446744073709551616 ∧ (p.kind = 2 ∨ p.kind = 3 ∨ p.kind = 4) ∧ p.body.length ≤ 232) (hl : 2 + ps.length ≤ n) : PutsOk n ps ∧ OnG (putsG (G0 n) ps) ps := by
  obtain ⟨h1, h2⟩ := onG_puts hn (fun j p hp => (h j p hp).1) hl
  have hm : ∀ p ∈ ps, ∃ j, j < ps.length ∧ p.id = ((2 + j : Nat) : Int) ∧ p.gen < 18446744073709551616 ∧ (p.kind = 2 ∨ p.kind = 3 ∨ p.kind = 4) ∧ p.body.length ≤ 232 := fun p hp => by
    obtain ⟨j, hj, e⟩ := List.getElem_of_mem hp
    exact ⟨j, hj, h j p (by rw [← e]; exact List.getElem?_eq_getElem hj)⟩
  refine ⟨⟨h1, fun p hp => ?_, fun p hp => ?_, fun p hp => ?_⟩, h2⟩
  · obtain ⟨j, hj, k1, _⟩ := hm p hp
    omega
  · obtain ⟨j, hj, _, k2, _⟩ := hm p hp
    exact k2
  · obtain ⟨j, hj, k1, k2, k3, k4⟩ := hm p hp
    unfold pgCheck
    rw [if_neg (by decide), if_neg]
    have hk : kindB p.kind = true := by
      unfold kindB
      rcases k3 with k3 | k3 | k3 <;> rw [k3] <;> decide
    rw [hk]
    simp
    omega
section
variable {G : GA} {ps : List PageA} {b i at_ : Nat} {p p' : PageA}
theorem spg_set (hO : OnG G (ps.set at_ p')) (ha : at_ < ps.length) : SpG G ps (2 + at_) ∧ G.view (2 + at_) = some (.inl p') := by
  have hfit := hO.fit
  rw [List.length_set] at hfit
  refine ⟨⟨hO.size, hO.b256, hfit, fun id p hid hp => hO.at_ _ _ ?_⟩, hO.at_ _ _ ?_⟩
  · unfold pageAt at hp ⊢
    split at hp
    · cases hp
    · rename_i h2
      rw [if_neg h2, List.getElem?_set_ne (by omega)]
      exact hp
  · unfold pageAt
    rw [if_neg (by omega), show 2 + at_ - 2 = at_ by omega, List.getElem?_set_self ha]
/-- each block is known, as a page that was put or as bytes. -/
def GA.known (G : GA) : Prop := ∀ i, i < G.blocks → (∃ p, G.view i = some (.inl p)) ∨ ∃ bs, G.look i = some bs
set_option maxRecDepth 10000 in
theorem G0_known (n : Nat) : (G0 n).known := fun i hi => .inr ⟨z256, by
  have h : i < n := hi
  show (if i < n then some z256 else none) = _
  rw [if_pos h]⟩
theorem put_known (h : G.known) (p : PageA) : (G.put p).known := fun i hi => by
  by_cases e : i = p.id.toNat
  · subst e; exact .inl ⟨p, upd_self _ _ _⟩
  · rcases h i hi with ⟨q, hq⟩ | ⟨bs, hb⟩
    · exact .inl ⟨q, (upd_ne _ _ e).trans hq⟩
    · exact .inr ⟨bs, (upd_ne _ _ e).trans hb⟩
theorem puts_known : ∀ (ps : List PageA) {G : GA}, G.known → (putsG G ps).known
  | [], _, h => h
  | p :: ps, _, h => puts_known ps (put_known h p)
theorem flush_look (h : G.known) {i : Nat} (hi : i < G.blocks) : ∃ bs, G.flushC.look i = some bs := by
  show ∃ bs, (match G.view i with | some (.inl p) => some (sealP p G.size) | _ => G.look i) = some bs
  rcases h i hi with ⟨p, hp⟩ | ⟨bs, hb⟩
  · rw [hp]; exact ⟨_, rfl⟩
  · split
    · exact ⟨_, rfl⟩
    · exact ⟨bs, hb⟩
theorem flush_page (hv : G.view i = some (.inl p)) : G.flushC.look i = some (sealP p G.size) := by
  show (match G.view i with | some (.inl p) => some (sealP p G.size) | _ => G.look i) = _
  rw [hv]
theorem turned_far (hs : G.size = 256) (bit mask : Nat) (hv : G.view i = some (.inl p)) (hc : pgCheck p 256 = none) (hg : p.gen < 18446744073709551616) (hid : p.id = (i : Int)) (hne : i ≠ b) : (G.flushC.flushD.turned b bit mask).view i = some (.inl p) := by
  show openO (upd G.flushC.flushD.look b ((G.flushC.flushD.last b).map fun q => corruptB q bit mask) i) i = some (.inl p)
  rw [upd_ne _ _ hne, show G.flushC.flushD.look i = some (sealP p G.size) from flush_page hv]
  unfold openO
  rw [Option.map_some, hs, ← hid]
  congr 1
  exact seal_openAt hc hg
set_option maxRecDepth 10000 in
theorem turned_at (hs : G.size = 256) {bit mask : Nat} (hbit : bit < 2048) (hm : mask % 2 = 1) (hv : G.view b = some (.inl p)) (hc : pgCheck p 256 = none) :
    (G.flushC.flushD.last b).isSome = true ∧ ∃ l, (G.flushC.flushD.turned b bit mask).view b = some (.inr (l, 5)) := by
  have hl : G.flushC.flushD.last b = some (sealP p G.size) := flush_page hv
  refine ⟨by rw [hl]; rfl, ?_⟩
  have hsh := corrupt_shut (p := p) (size := 256) bit mask hc (by omega) hm
  refine ⟨[-1, openId (corruptB (sealP p 256) bit mask)], ?_⟩
  show openO (upd G.flushC.flushD.look b ((G.flushC.flushD.last b).map fun q => corruptB q bit mask) b) b = _
  rw [upd_self, hl, Option.map_some, hs]
  unfold openO
  rw [Option.map_some]
  refine congrArg some ?_
  unfold openAtP
  exact if_pos hsh
theorem turned_total (h : G.known) (hb : b < G.blocks) (bit mask : Nat) : (G.flushC.flushD.turned b bit mask).total := fun i hi => by
  show ∃ r, openO (upd G.flushC.flushD.look b ((G.flushC.flushD.last b).map fun q => corruptB q bit mask) i) i = some r
  unfold openO
  by_cases e : i = b
  · subst e
    obtain ⟨bs, hbs⟩ := flush_look h (i := i) hi
    rw [upd_self, show G.flushC.flushD.last i = some bs from hbs]
    exact ⟨_, rfl⟩
  · obtain ⟨bs, hbs⟩ := flush_look h (i := i) hi
    rw [upd_ne _ _ e, show G.flushC.flushD.look i = some bs from hbs]
    exact ⟨_, rfl⟩
end
/-- CASE 2: a burst. -/
theorem turned_spg {ps : List PageA} {at_ bit mask : Nat} (hp : PutsOk 200 ps) {G : GA} (hO : OnG G ps) (hkn : G.known) (ha : at_ < ps.length) (hid : ∀ (j : Nat) (p : PageA), ps[j]? = some p → p.id = ((2 + j : Nat) : Int)) (hbit : bit < 2048) (hm : mask % 2 = 1) :
    (G.flushC.flushD.last (2 + at_)).isSome = true ∧ (G.flushC.flushD.turned (2 + at_) bit mask).total ∧ SpG (G.flushC.flushD.turned (2 + at_) bit mask) ps (2 + at_) ∧ SpBad (G.flushC.flushD.turned (2 + at_) bit mask) ps (2 + at_) := by
  have hpg : pageAt ps (2 + at_) = some ps[at_] := by
    unfold pageAt
    rw [if_neg (by omega), show 2 + at_ - 2 = at_ by omega]
    exact List.getElem?_eq_getElem ha
  have hv := hO.at_ _ _ hpg
  have hok := hp.ok ps[at_] (List.getElem_mem ha)
  obtain ⟨t1, l, t2⟩ := turned_at hO.size hbit hm hv hok
  have hfit := hO.fit
  refine ⟨t1, turned_total hkn (by omega) _ _, ⟨hO.size, hO.b256, hO.fit, fun id p hne hq => ?_⟩, .inl ⟨l, t2⟩⟩
  have hlt := pageAt_lt hq
  have hidp : p.id = (id : Int) := by
    unfold pageAt at hq
    rw [if_neg (by omega)] at hq
    have := hid _ p hq
    omega
  exact turned_far hO.size bit mask (hO.at_ _ _ hq) (hp.ok p (pageAt_mem hq)) (hp.gen p (pageAt_mem hq)) hidp hne
/-- the three ways to spoil a page of a built tree. -/
theorem spoil_young {l : List PairS} (hT : Tame 300 l) {e k at_ : Nat} (he : 1 ≤ e) (he2 : e ≤ 3) (hk : 2 ≤ k) (hk2 : k ≤ 4) (h0 : l ≠ []) {p : PageA} (hp : (buildA 5 e k l).1[at_]? = some p) :
    PutsOk 200 ((buildA 5 e k l).1.set at_ { p with gen := 6 }) ∧ ∃ er, walkW (putsG (G0 200) ((buildA 5 e k l).1.set at_ { p with gen := 6 })) 5 ((buildA 5 e k l).2.1 : Int) = .inr er ∧ er.2 = 5 := by
  have hf := hT.few 5 e k he hk
  have ha := (List.getElem?_eq_some_iff.1 hp).1
  have hfit := build_fit 5 e k he he2 hk hk2 hT.ok (by omega)
  obtain ⟨h1, h2⟩ := fit_puts2 (n := 200) (by omega) (ps := (buildA 5 e k l).1.set at_ { p with gen := 6 }) (fun j q hq => by
    by_cases e : at_ = j
    · subst e
      rw [List.getElem?_set_self ha] at hq
      injection hq with hq
      subst hq
      obtain ⟨k1, k2, k3, k4⟩ := hfit _ p hp
      exact ⟨k1, by show 6 < _; omega, k3, k4⟩
    · rw [List.getElem?_set_ne e] at hq
      obtain ⟨k1, k2, k3, k4⟩ := hfit j q hq
      exact ⟨k1, by omega, k3, k4⟩) (by rw [List.length_set]; omega)
  obtain ⟨s1, s2⟩ := spg_set h2 ha
  refine ⟨h1, spoilt_walk hT he he2 hk hk2 h0 s1 (by omega) (.inr ⟨p, _, ?_, s2, rfl, rfl, by show 5 < 6; omega⟩)⟩
  unfold pageAt
  rw [if_neg (by omega), show 2 + at_ - 2 = at_ by omega, hp]
theorem spoil_twice {l : List PairS} (hT : Tame 300 l) {e k at_ : Nat} (he : 1 ≤ e) (he2 : e ≤ 3) (hk : 2 ≤ k) (hk2 : k ≤ 4) (h0 : l ≠ []) {p o : PageA} (hp : (buildA 5 e k l).1[at_]? = some p) (ho : (buildA 5 e k l).1[(at_ + 1) % (buildA 5 e k l).1.length]? = some o)
    (n1 : p.id ≠ ((buildA 5 e k l).2.1 : Int)) (n2 : o.id ≠ ((buildA 5 e k l).2.1 : Int)) (n3 : o.kind ≠ 4) :
    PutsOk 200 ((buildA 5 e k l).1.set at_ { p with kind := o.kind, body := o.body }) ∧ ∃ er, walkW (putsG (G0 200) ((buildA 5 e k l).1.set at_ { p with kind := o.kind, body := o.body })) 5 ((buildA 5 e k l).2.1 : Int) = .inr er ∧ er.2 = 5 := by
  have hf := hT.few 5 e k he hk
  have ha := (List.getElem?_eq_some_iff.1 hp).1
  have hfit := build_fit 5 e k he he2 hk hk2 hT.ok (by omega)
  obtain ⟨p1, p2, p3, p4⟩ := hfit _ p hp
  obtain ⟨o1, o2, o3, o4⟩ := hfit _ o ho
  obtain ⟨h1, h2⟩ := fit_puts2 (n := 200) (by omega) (ps := (buildA 5 e k l).1.set at_ { p with kind := o.kind, body := o.body }) (fun j q hq => by
    by_cases e : at_ = j
    · subst e
      rw [List.getElem?_set_self ha] at hq
      injection hq with hq
      subst hq
      exact ⟨p1, by show p.gen < _; omega, o3, o4⟩
    · rw [List.getElem?_set_ne e] at hq
      obtain ⟨k1, k2, k3, k4⟩ := hfit j q hq
      exact ⟨k1, by omega, k3, k4⟩) (by rw [List.length_set]; omega)
  obtain ⟨s1, s2⟩ := spg_set h2 ha
  have hpa : ∀ j, pageAt (buildA 5 e k l).1 (2 + j) = (buildA 5 e k l).1[j]? := fun j => by
    unfold pageAt
    rw [if_neg (by omega), show 2 + j - 2 = j by omega]
  refine ⟨h1, spoilt_walk hT he he2 hk hk2 h0 s1 (by omega) (.inl (.inr ⟨2 + (at_ + 1) % (buildA 5 e k l).1.length, o, _, (hpa _).trans ho, s2, rfl, rfl, n3, ?_⟩))⟩
  by_cases hl : at_ + 1 < (buildA 5 e k l).1.length
  · left; rw [Nat.mod_eq_of_lt hl]; omega
  · right
    have hO := s1.fixed (p := p) ((hpa at_).trans hp)
    exact built_last hT he hk hk2 he2 h0 (hO.fits2 5) (by omega) (by omega)
theorem spoil_burst {l : List PairS} (hT : Tame 300 l) {e k at_ bit mask : Nat} (he : 1 ≤ e) (he2 : e ≤ 3) (hk : 2 ≤ k) (hk2 : k ≤ 4) (h0 : l ≠ []) (ha : at_ < (buildA 5 e k l).1.length) (hbit : bit < 2048) (hm : mask % 2 = 1) :
    ((putsG (G0 200) (buildA 5 e k l).1).flushC.flushD.last (2 + at_)).isSome = true ∧ ((putsG (G0 200) (buildA 5 e k l).1).flushC.flushD.turned (2 + at_) bit mask).total ∧ ∃ er, walkW ((putsG (G0 200) (buildA 5 e k l).1).flushC.flushD.turned (2 + at_) bit mask) 5 ((buildA 5 e k l).2.1 : Int) = .inr er ∧ er.2 = 5 := by
  have hf := hT.few 5 e k he hk
  have hfit := build_fit 5 e k he he2 hk hk2 hT.ok (by omega)
  obtain ⟨h1, h2⟩ := fit_puts (n := 200) (gen := 5) (by omega) (by omega) hfit (by omega)
  obtain ⟨t1, t2, t3, t4⟩ := turned_spg h1 h2 (puts_known _ (G0_known 200)) ha (fun j p hp => (hfit j p hp).1) hbit hm
  exact ⟨t1, t2, spoilt_walk hT he he2 hk hk2 h0 t3 (by omega) (.inl t4)⟩
end Go.Proofs.YtepafbokbfcbgaaGreatDoor
