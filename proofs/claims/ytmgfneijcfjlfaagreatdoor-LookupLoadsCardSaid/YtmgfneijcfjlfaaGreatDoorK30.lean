/- lookup.Path, Value, Get. | lookup.Get. | The laws' pager of pages: a new disk, cache and space, each page put and marked. | The state of a law: its pager lies in a box. | law11.held: a pair's entry, in the leaf to which its path leads, tells its value. -/
import Derived.Test.YtmgfneijcfjlfaaGreatDoorK29
import Derived.Test.YtmgfneijcfjlfaaGreatDoorK19
import Derived.Test.YtmgfneijcfjlfaaGreatDoorK24
import Derived.Test.YtmgfneijcfjlfaaGreatDoorK27
namespace Go.Proofs.YtmgfneijcfjlfaaGreatDoor
open Go.RowKit
attribute [local go_sem ↓] Go.wp_at_zero Go.wp_at_succ
def ValRes (F : Nat → Prop) (ad : Nat → Addr) (w' : World) (r : ByteArray ⊕ Err) (e : Ending) : Prop :=
  match r with
  | .inl v => e = .returned (.tuple #[.string v, .nilIface])
  | .inr (l, k) => ∃ f, e = .returned (.tuple #[.string ⟨#[]⟩, faultV f]) ∧ ErrC F ad w' (faultV f) l k
def PathRes (F : Nat → Prop) (ad : Nat → Addr) (w' : World) (r : (List (Int × Nat) × Bool) ⊕ Err) (e : Ending) : Prop :=
  match r with
  | .inl (st, b) => ∃ sv, e = .returned (.tuple #[sv, .bool b, .nilIface]) ∧ Sl F w' 2 encSt sv st
  | .inr (l, k) => ∃ f, e = .returned (.tuple #[.slice none 0 0, .bool false, faultV f]) ∧ ErrC F ad w' (faultV f) l k
def LookRes (F : Nat → Prop) (ad : Nat → Addr) (w' : World) (r : Option ByteArray ⊕ Err) (e : Ending) : Prop :=
  match r with
  | .inl (some v) => e = .returned (.tuple #[.string v, .bool true, .nilIface])
  | .inl none => e = .returned (.tuple #[.string ⟨#[]⟩, .bool false, .nilIface])
  | .inr (l, k) => ∃ f, e = .returned (.tuple #[.string ⟨#[]⟩, .bool false, faultV f]) ∧ ErrC F ad w' (faultV f) l k
section
variable {P P' P1 P2 F F' F1 F2 Q : Nat → Prop} {ad : Nat → Addr} {w w' wr w2 : World} {c s : Nat} {G : GA} {l : List Nat} {v v' : Value} {gen : Nat}
set_option maxRecDepth 100000 in
theorem value_any (hL : Env F ad w) (hP : ∀ k, P k → F k) (h : PgR F w P c s G l) (gen : Nat) (e : EntryA) (hid : -9223372036854775808 ≤ e.chain ∧ e.chain ≤ 9223372036854775807) (hok : valueOk G e) :
    Calls Tryz.prog 42 #[pgV c s gen, .agg #[.string e.key, .string e.value, .int .i64 e.chain, .int .i64 e.size]] w (PgDone F P ad w c s G l (fun F' w' ed => ValRes F' ad w' (valueA G e) ed)) := by
  obtain ⟨key, value, chain, size⟩ := e
  simp only at hid
  have m0 : Ext w ((w.alloc (.cells #[.pointer (some ⟨c, 0, none⟩), .pointer (some ⟨s, 0, none⟩), .int .u64 (gen : Int)] 34)).alloc (.cells #[.string key, .string value, .int .i64 chain, .int .i64 size] 107)) := ((Mods.refl _ w).alloc _).alloc _
  have HN0 := Lib.hid (Nxt.ext hL hP m0)
  have HG0 := Lib.hid (h.at m0)
  have HOK := Lib.hid hok
  by_cases hz : chain = 0
  · have hzb : (chain == 0) = true := beq_iff_eq.2 hz
    have HV : Hid (valueA G ⟨key, value, chain, size⟩ = .inl value) := Lib.hid (by unfold valueA; rw [if_pos hz])
    clear hL hP h m0 hok hz
    unfold pgV
    go_enter Tryz.func42, Tryz.ntmps42
    go_wp2_with fail
    go_ret2
    exact ⟨P, F, HG0.out, HN0.out, by rw [HV.out]; rfl⟩
  · have hzb : (chain == 0) = false := beq_eq_false_iff_ne.2 hz
    have HRD := Lib.hid (chRead_any HN0.out.env HN0.out.sub HG0.out gen chain size hid (hok hz))
    have HV : Hid (valueA G ⟨key, value, chain, size⟩ = match chErr G chain size with | none => .inl ⟨((walkA G size.toNat chain size).1.flatMap (·.2)).toArray⟩ | some (l, k) => .inr (-1 :: l, k)) := Lib.hid (by unfold valueA; rw [if_neg hz]; rfl)
    clear hL hP h m0 hok hz
    unfold pgV at HRD ⊢
    go_enter Tryz.func42, Tryz.ntmps42
    go_wp2_with fail
    refine (HRD.out).mono ?_
    rintro e w2 ⟨P2, F2, hG2, hN2, ⟨hc, rfl⟩ | ⟨⟨el, ek⟩, f, hc, rfl, hE⟩⟩
    · have HG2 := Lib.hid hG2
      have HN2 := Lib.hid hN2
      have HC := Lib.hid hc
      clear hG2 hN2 hc
      go_wp2_with fail
      refine (wrap_nil _ _).mono ?_
      rintro e w3 ⟨rfl, rfl⟩
      go_wp2_with fail
      go_ret2
      exact ⟨P2, F2, HG2.out, HN0.out.trans HN2.out, by rw [HV.out, HC.out]; rfl⟩
    · have HG2 := Lib.hid hG2
      have HN2 := Lib.hid hN2
      have HC := Lib.hid hc
      have HE := Lib.hid hE
      clear hG2 hN2 hc hE
      go_wp2_with fail
      refine (wrap_any HN2.out.env _ _ _ _ HE.out).mono ?_
      rintro e w3 ⟨f3, rfl, hE3, hm3⟩
      have HE3 := Lib.hid hE3
      have HM3 := Lib.hid hm3
      clear hE3 hm3
      go_wp2_with fail
      go_ret2
      exact ⟨P2, F2, HG2.out.at HM3.out, (HN0.out.trans HN2.out).trans (Nxt.ext HN2.out.env HN2.out.sub HM3.out), by rw [HV.out, HC.out]; exact ⟨f3, rfl, HE3.out⟩⟩
set_option maxRecDepth 100000 in
set_option maxHeartbeats 1000000 in
theorem path_any (hL : Env F ad w) (hP : ∀ k, P k → F k) (h : PgR F w P c s G l) (gen : Nat) (root : Int) (key : ByteArray) (hk : findOk G key 16 root) :
    Calls Tryz.prog 17 #[pgV c s gen, .int .i64 root, .string key] w (PgDone F P ad w c s G l (fun F' w' e => PathRes F' ad w' (pathA G root key) e)) := by
  have m0 : Ext w (w.alloc (.cells #[.pointer (some ⟨c, 0, none⟩), .pointer (some ⟨s, 0, none⟩), .int .u64 (gen : Int)] 34)) := (Mods.refl _ w).alloc _
  have HN0 := Lib.hid (Nxt.ext hL hP m0)
  have HG0 := Lib.hid (h.at m0)
  have HB0 := Lib.hid (Blk.new w #[.pointer (some ⟨c, 0, none⟩), .pointer (some ⟨s, 0, none⟩), .int .u64 (gen : Int)] 34)
  have HK := Lib.hid hk
  have HBP : Hid (¬ P w.heap.size) := Lib.hid (fun hp => by have := h.bd _ hp; omega)
  clear hL hP h hk m0
  have HCK := fun op => lkCheck_any (c := c) (s := s) HN0.out.env op gen key
  have HFD := fun (F1 P1 : Nat → Prop) (wr : World) (h1 : Env F1 ad wr) (h2 : ∀ k, P1 k → F1 k) (h3 : PgR F1 wr P1 c s G l) => find_any h1 h2 h3 gen root key HK.out
  unfold pgV at HCK HFD ⊢
  have HCK := Lib.hid HCK
  have HFD := Lib.hid HFD
  go_enter Tryz.func17, Tryz.ntmps17
  go_wp2_with fail
  refine (HCK.out _).mono ?_
  rintro e w1 ⟨ev, rfl, hE, hm1⟩
  have hB1 := HB0.out.ext hm1
  have b0 := hB1.cell (o := 0) (v := .pointer (some ⟨c, 0, none⟩)) rfl
  have b1 := hB1.cell (o := 1) (v := .pointer (some ⟨s, 0, none⟩)) rfl
  have b2 := hB1.cell (o := 2) (v := .int .u64 (gen : Int)) rfl
  have HN1 := Lib.hid (HN0.out.trans (Nxt.ext HN0.out.env HN0.out.sub hm1))
  have HG1 := Lib.hid (HG0.out.at hm1)
  clear hm1 hB1
  cases hc : lkCheck key with
  | some er =>
    obtain ⟨el, ek⟩ := er
    rw [hc] at hE
    obtain ⟨f, rfl, hE⟩ := hE
    have HE := Lib.hid hE
    have HV : Hid (pathA G root key = .inr (el, ek)) := Lib.hid (by unfold pathA; rw [hc])
    clear hE hc
    go_wp2_with fail
    refine bodyPost_ret (v := .tuple #[.slice none 0 0, .bool false, faultV f]) (by simp [results, Tryz.results17, go_sem]) rfl ?_
    exact ⟨P, F, HG1.out, HN1.out, by rw [HV.out]; exact ⟨f, rfl, HE.out⟩⟩
  | none =>
    rw [hc] at hE
    cases hE
    by_cases hr : root = 0
    · have hrb : (root == 0) = true := beq_iff_eq.2 hr
      have HV : Hid (pathA G root key = .inl ([], false)) := Lib.hid (by unfold pathA; rw [hc]; simp only [if_pos hr])
      clear hc hr
      go_wp2_with fail
      refine bodyPost_ret (v := .tuple #[.slice none 0 0, .bool false, .nilIface]) (by simp [results, Tryz.results17, go_sem]) rfl ?_
      exact ⟨P, F, HG1.out, HN1.out, by rw [HV.out]; exact ⟨_, rfl, Sl.nil _ _ _ _⟩⟩
    · have hrb : (root == 0) = false := beq_eq_false_iff_ne.2 hr
      have HV : Hid (pathA G root key = match findA G key 16 [] root with | .inr (l, k) => .inr (-1 :: l, k) | .inl (st, n) => .inl (st, (findN n key).2)) := Lib.hid (by unfold pathA; rw [hc]; simp only [if_neg hr]; rfl)
      clear hc hr
      go_wp2_with fail
      refine (HFD.out F P _ HN1.out.env HN1.out.sub HG1.out).mono ?_
      rintro e w2 ⟨P2, F2, hG2, hN2, hres⟩
      have HG2 := Lib.hid hG2
      have HN2 := Lib.hid hN2
      clear hG2 hN2
      generalize hfa : findA G key 16 [] root = r at hres
      have HFA := Lib.hid hfa
      clear hfa
      rcases r with ⟨st, n⟩ | ⟨el, ek⟩
      · obtain ⟨sv, ve, vk, vi, rfl, hss, hse, hsk, hsi⟩ := hres
        obtain ⟨sa, sc, rfl, _, _, _, _⟩ := _root_.id hss
        obtain ⟨ea, ec, rfl, _, _, _, _⟩ := _root_.id hse
        obtain ⟨ka, kc, rfl, _, _, _, _⟩ := _root_.id hsk
        obtain ⟨ia, ic, rfl, _, _, _, _⟩ := _root_.id hsi
        have m2 : Ext w2 (w2.alloc (.cells #[.bool n.leaf, .slice ea n.entries.length ec, .slice ka n.keys.length kc, .slice ia n.kids.length ic] 57)) := (Mods.refl _ w2).alloc _
        have HND := Lib.hid (findNode_any n key _ _ (.slice ia n.kids.length ic) (hse.ext m2) (hsk.ext m2))
        have HSS := Lib.hid hss
        have HM2 := Lib.hid m2
        clear hss hse hsk hsi m2
        go_wp2_with fail
        refine (HND.out).mono ?_
        rintro e w3 ⟨rfl, hm3⟩
        have HM3 := Lib.hid (HM2.out.trans hm3)
        clear hm3
        go_wp2_with fail
        refine bodyPost_ret (v := .tuple #[.slice sa st.length sc, .bool (findN n key).2, .nilIface]) (by simp [results, Tryz.results17, go_sem]) rfl ?_
        exact ⟨P2, F2, HG2.out.at HM3.out, (HN1.out.trans HN2.out).trans (Nxt.ext HN2.out.env HN2.out.sub HM3.out), by rw [HV.out, HFA.out]; exact ⟨_, rfl, HSS.out.ext HM3.out⟩⟩
      · obtain ⟨f, rfl, hE⟩ := hres
        have HE := Lib.hid hE
        clear hE
        have m2 : Ext w2 (w2.alloc (.cells #[.bool false, .slice none 0 0, .slice none 0 0, .slice none 0 0] 57)) := (Mods.refl _ w2).alloc _
        have HM2 := Lib.hid m2
        clear m2
        go_wp2_with fail
        refine (wrap_any (HN2.out.env.mods HM2.out.ext) _ _ _ _ (HE.out.mods HM2.out.ext)).mono ?_
        rintro e w3 ⟨f3, rfl, hE3, hm3⟩
        have HE3 := Lib.hid hE3
        have HM3 := Lib.hid (HM2.out.trans hm3)
        clear hE3 hm3
        go_wp2_with fail
        refine bodyPost_ret (v := .tuple #[.slice none 0 0, .bool false, faultV f3]) (by simp [results, Tryz.results17, go_sem]) rfl ?_
        exact ⟨P2, F2, HG2.out.at HM3.out, (HN1.out.trans HN2.out).trans (Nxt.ext HN2.out.env HN2.out.sub HM3.out), by rw [HV.out, HFA.out]; exact ⟨f3, rfl, HE3.out⟩⟩
end
end Go.Proofs.YtmgfneijcfjlfaaGreatDoor
namespace Go.Proofs.YtmgfneijcfjlfaaGreatDoor
open Go.RowKit
attribute [local go_sem ↓] Go.wp_at_zero Go.wp_at_succ
theorem ValRes.form {F : Nat → Prop} {ad : Nat → Addr} {w : World} {r : ByteArray ⊕ Err} {e : Ending} (h : ValRes F ad w r e) : ∃ v ev, e = .returned (.tuple #[.string v, ev]) := by
  rcases r with v | ⟨l, k⟩
  · exact ⟨v, _, h⟩
  · obtain ⟨f, h, _⟩ := h; exact ⟨_, _, h⟩
section
variable {P P' P1 P2 F F' F1 F2 Q : Nat → Prop} {ad : Nat → Addr} {w w' wr w2 : World} {c s : Nat} {G : GA} {l : List Nat} {v v' : Value} {gen : Nat}
set_option maxRecDepth 100000 in
set_option maxHeartbeats 1000000 in
theorem look_any (hL : Env F ad w) (hP : ∀ k, P k → F k) (h : PgR F w P c s G l) (gen : Nat) (root : Int) (key : ByteArray) (hk : lookOk G root key) :
    Calls Tryz.prog 11 #[pgV c s gen, .int .i64 root, .string key] w (PgDone F P ad w c s G l (fun F' w' e => LookRes F' ad w' (lookA G root key) e)) := by
  have m0 : Ext w (w.alloc (.cells #[.pointer (some ⟨c, 0, none⟩), .pointer (some ⟨s, 0, none⟩), .int .u64 (gen : Int)] 34)) := (Mods.refl _ w).alloc _
  have HN0 := Lib.hid (Nxt.ext hL hP m0)
  have HG0 := Lib.hid (h.at m0)
  have HB0 := Lib.hid (Blk.new w #[.pointer (some ⟨c, 0, none⟩), .pointer (some ⟨s, 0, none⟩), .int .u64 (gen : Int)] 34)
  have HK := Lib.hid hk
  have HBP : Hid (¬ P w.heap.size) := Lib.hid (fun hp => by have := h.bd _ hp; omega)
  clear hL hP h hk m0
  have HCK := fun op => lkCheck_any (c := c) (s := s) HN0.out.env op gen key
  have HFD := fun (F1 P1 : Nat → Prop) (wr : World) (h1 : Env F1 ad wr) (h2 : ∀ k, P1 k → F1 k) (h3 : PgR F1 wr P1 c s G l) => find_any h1 h2 h3 gen root key HK.out.1
  unfold pgV at HCK HFD ⊢
  have HCK := Lib.hid HCK
  have HFD := Lib.hid HFD
  go_enter Tryz.func11, Tryz.ntmps11
  go_wp2_with fail
  refine (HCK.out _).mono ?_
  rintro e w1 ⟨ev, rfl, hE, hm1⟩
  have hB1 := HB0.out.ext hm1
  have b0 := hB1.cell (o := 0) (v := .pointer (some ⟨c, 0, none⟩)) rfl
  have b1 := hB1.cell (o := 1) (v := .pointer (some ⟨s, 0, none⟩)) rfl
  have b2 := hB1.cell (o := 2) (v := .int .u64 (gen : Int)) rfl
  have HN1 := Lib.hid (HN0.out.trans (Nxt.ext HN0.out.env HN0.out.sub hm1))
  have HB1 := Lib.hid hB1
  have HG1 := Lib.hid (HG0.out.at hm1)
  clear hm1 hB1
  cases hc : lkCheck key with
  | some er =>
    obtain ⟨el, ek⟩ := er
    rw [hc] at hE
    obtain ⟨f, rfl, hE⟩ := hE
    have HE := Lib.hid hE
    have HV : Hid (lookA G root key = .inr (el, ek)) := Lib.hid (by unfold lookA; rw [hc])
    clear hE hc
    go_wp2_with fail
    refine bodyPost_ret (v := .tuple #[.string ⟨#[]⟩, .bool false, faultV f]) (by simp [results, Tryz.results11, go_sem]) rfl ?_
    exact ⟨P, F, HG1.out, HN1.out, by rw [HV.out]; exact ⟨f, rfl, HE.out⟩⟩
  | none =>
    rw [hc] at hE
    cases hE
    by_cases hr : root = 0
    · have hrb : (root == 0) = true := beq_iff_eq.2 hr
      have HV : Hid (lookA G root key = .inl none) := Lib.hid (by unfold lookA; rw [hc]; simp only [if_pos hr])
      clear hc hr
      go_wp2_with fail
      refine bodyPost_ret (v := .tuple #[.string ⟨#[]⟩, .bool false, .nilIface]) (by simp [results, Tryz.results11, go_sem]) rfl ?_
      exact ⟨P, F, HG1.out, HN1.out, by rw [HV.out]; rfl⟩
    · have hrb : (root == 0) = false := beq_eq_false_iff_ne.2 hr
      have HV : Hid (lookA G root key = match findA G key 16 [] root with | .inr (l, k) => .inr (-1 :: l, k) | .inl (_, n) => (match n.entries[(findN n key).1]? with | none => .inl none | some e => if (findN n key).2 = true then (match valueA G e with | .inl v => .inl (some v) | .inr (l, k) => .inr (-1 :: l, k)) else .inl none)) := Lib.hid (by unfold lookA; rw [hc]; simp only [if_neg hr]; rfl)
      clear hc hr
      go_wp2_with fail
      refine (HFD.out F P _ HN1.out.env HN1.out.sub HG1.out).mono ?_
      rintro e w2 ⟨P2, F2, hG2, hN2, hres⟩
      have HG2 := Lib.hid hG2
      have HN2 := Lib.hid hN2
      clear hG2 hN2
      generalize hfa : findA G key 16 [] root = r at hres
      have HFA := Lib.hid hfa
      clear hfa
      rcases r with ⟨st, n⟩ | ⟨el, ek⟩
      · obtain ⟨sv, ve, vk, vi, rfl, hss, hse, hsk, hsi⟩ := hres
        obtain ⟨sa, sc, rfl, _, _, _, _⟩ := hss
        obtain ⟨ea, ec, rfl, hec1, hec2, hec3, hee⟩ := _root_.id hse
        obtain ⟨ka, kc, rfl, _, _, _, _⟩ := _root_.id hsk
        obtain ⟨ia, ic, rfl, _, _, _, _⟩ := hsi
        unfold maxLen at hec2
        have m2 : Ext w2 (w2.alloc (.cells #[.bool n.leaf, .slice ea n.entries.length ec, .slice ka n.keys.length kc, .slice ia n.kids.length ic] 57)) := (Mods.refl _ w2).alloc _
        have HND := Lib.hid (findNode_any n key _ _ (.slice ia n.kids.length ic) (hse.ext m2) (hsk.ext m2))
        have HX2 := Lib.hid (Blk.new w2 #[.bool n.leaf, .slice ea n.entries.length ec, .slice ka n.keys.length kc, .slice ia n.kids.length ic] 57)
        have HEE := Lib.hid hee
        have HM2 := Lib.hid m2
        have HB2 := Lib.hid (HN2.out.blk HB1.out HBP.out)
        obtain ⟨at_, isb, hfn⟩ : ∃ a b, findN n key = (a, b) := ⟨_, _, rfl⟩
        have HFN := Lib.hid hfn
        rw [hfn] at HND
        have HV2 : Hid (lookA G root key = match n.entries[at_]? with | none => .inl none | some e => if isb = true then (match valueA G e with | .inl v => .inl (some v) | .inr (l, k) => .inr (-1 :: l, k)) else .inl none) := Lib.hid (by rw [HV.out, HFA.out]; simp only [hfn])
        have hisb : isb = true → at_ < n.entries.length := by
          intro hb
          unfold findN at hfn
          split at hfn
          · simp only [Prod.mk.injEq] at hfn
            obtain ⟨h1, h2⟩ := hfn
            rw [h1, hb] at h2
            split at h2
            · rename_i e he; exact (List.getElem?_eq_some_iff.1 he).1
            · cases h2
          · simp only [Prod.mk.injEq] at hfn
            rw [hb] at hfn; cases hfn.2
        have HIS := Lib.hid hisb
        clear hse hsk m2 hee hfn hisb
        go_wp2_with fail
        refine (HND.out).mono ?_
        rintro e w3 ⟨rfl, hm3⟩
        have HM3 := Lib.hid (HM2.out.trans hm3)
        have HX3 := Lib.hid (HX2.out.ext hm3)
        clear hm3
        cases isb
        · have HVN : Hid (lookA G root key = .inl none) := Lib.hid (by
            rw [HV2.out]
            split
            · rfl
            · rfl)
          go_wp2_with fail
          refine bodyPost_ret (v := .tuple #[.string ⟨#[]⟩, .bool false, .nilIface]) (by simp [results, Tryz.results11, go_sem]) rfl ?_
          exact ⟨P2, F2, HG2.out.at HM3.out, (HN1.out.trans HN2.out).trans (Nxt.ext HN2.out.env HN2.out.sub HM3.out), by rw [HVN.out]; rfl⟩
        · have hat := HIS.out rfl
          have HAT := Lib.hid hat
          obtain ⟨eb, eoff, rfl, _, hebF, hc4⟩ := Sl.at HEE.out HM3.out (fun _ _ f => f.elim) at_ hat
          obtain ⟨en, hen⟩ : ∃ en, en = n.entries[at_] := ⟨_, rfl⟩
          have HEN : Hid (n.entries[at_]? = some en) := Lib.hid (by rw [hen]; exact List.getElem?_eq_getElem hat)
          have hc4 : ∀ j u, (encE en)[j]? = some u → w3.cell? ⟨eb, eoff + at_ * 4 + j, none⟩ = some u := by rw [hen]; exact hc4
          have c0 := hc4 0 _ rfl
          simp only [Nat.add_zero] at c0
          have c1 := hc4 1 _ rfl
          have c2 := hc4 2 _ rfl
          have c3 := hc4 3 _ rfl
          have HVE : Hid (lookA G root key = match valueA G en with | .inl v => .inl (some v) | .inr (l, k) => .inr (-1 :: l, k)) := Lib.hid (by rw [HV2.out, HEN.out]; simp only [if_true])
          have HVO : Hid (valueOk G en) := Lib.hid (HK.out.2 st n en HFA.out (by rw [HFN.out]; exact HEN.out))
          have HRG : Hid (-9223372036854775808 ≤ en.chain ∧ en.chain ≤ 9223372036854775807) := Lib.hid (by
            obtain ⟨k1, k2⟩ := findA_right 16 [] root HFA.out
            have h3 := right_entry k2 k1 HEN.out
            unfold rightE at h3
            simp only [Bool.and_eq_true] at h3
            have h4 := h3.2
            split at h4
            · omega
            · simp only [Bool.and_eq_true, decide_eq_true_eq, kidB] at h4; omega)
          have HNB := Lib.hid (HN2.out.not HB1.out.lt HBP.out)
          have HNX : Hid (¬ P2 w2.heap.size) := Lib.hid (fun hp => by have := HN2.out.stp.bd _ hp; omega)
          have HNE : Hid (¬ P2 eb) := Lib.hid (fun hp => hebF (HN2.out.sub _ hp))
          have hB3 := HB2.out.ext HM3.out
          have p0 := hB3.cell (o := 0) (v := .pointer (some ⟨c, 0, none⟩)) rfl
          have p1 := hB3.cell (o := 1) (v := .pointer (some ⟨s, 0, none⟩)) rfl
          have p2 := hB3.cell (o := 2) (v := .int .u64 (gen : Int)) rfl
          have x1 := HX3.out.cell (o := 1) (v := .slice (some ⟨eb, eoff, none⟩) n.entries.length ec) rfl
          have i0 : (0 : Int) ≤ (at_ : Int) := by omega
          have i1 : (at_ : Int) < (n.entries.length : Int) := by omega
          have HVC := Lib.hid (value_any (HN2.out.env.mods HM3.out.drew.ext) HN2.out.sub (HG2.out.at HM3.out.drew) gen en HRG.out HVO.out)
          unfold pgV at HVC
          clear hen hc4 hB3
          go_wp2_with fail
          go_region_held3 (fun w' => w'.cell? ⟨w.heap.size, 0, none⟩ = some (.pointer (some ⟨c, 0, none⟩)) ∧ w'.cell? ⟨w.heap.size, 1, none⟩ = some (.pointer (some ⟨s, 0, none⟩)) ∧ w'.cell? ⟨w.heap.size, 2, none⟩ = some (.int .u64 (gen : Int)) ∧ w'.cell? ⟨w2.heap.size, 1, none⟩ = some (.slice (some ⟨eb, eoff, none⟩) n.entries.length ec) ∧
              w'.cell? ⟨eb, eoff + at_ * 4, none⟩ = some (.string en.key) ∧ w'.cell? ⟨eb, eoff + at_ * 4 + 1, none⟩ = some (.string en.value) ∧ w'.cell? ⟨eb, eoff + at_ * 4 + 2, none⟩ = some (.int .i64 en.chain) ∧ w'.cell? ⟨eb, eoff + at_ * 4 + 3, none⟩ = some (.int .i64 en.size))
            (first | (with_reducible exact ⟨p0, p1, p2, x1, c0, c1, c2, c3⟩) | (with_reducible exact ⟨y0, y1, y2, y3, z0, z1, z2, z3⟩) | go_keep)
            (first
              | (go_at_call 42; (with_reducible refine (HVC.out).mono ?_); rintro e w4 ⟨P4, F4, hG4, hN4, hres⟩; obtain ⟨vs, ev, rfl⟩ := hres.form; have y0 := cellM (w := w3.drew) hN4.stp.mods p0 HNB.out; have y1 := cellM (w := w3.drew) hN4.stp.mods p1 HNB.out; have y2 := cellM (w := w3.drew) hN4.stp.mods p2 HNB.out; have y3 := cellM (w := w3.drew) hN4.stp.mods x1 HNX.out; have z0 := cellM (w := w3.drew) hN4.stp.mods c0 HNE.out; have z1 := cellM (w := w3.drew) hN4.stp.mods c1 HNE.out; have z2 := cellM (w := w3.drew) hN4.stp.mods c2 HNE.out; have z3 := cellM (w := w3.drew) hN4.stp.mods c3 HNE.out)
              | fail)
          have HG4 := Lib.hid hG4
          have HN4 := Lib.hid (((HN1.out.trans HN2.out).trans (Nxt.ext HN2.out.env HN2.out.sub HM3.out.drew)).trans hN4)
          clear p0 p1 p2 x1 c0 c1 c2 c3 y0 y1 y2 y3 z0 z1 z2 z3 hG4 hN4
          generalize hva : valueA G en = r at hres
          have HVA := Lib.hid hva
          clear hva
          rcases r with vv | ⟨el, ek⟩
          · have hre : Ending.returned (.tuple #[.string vs, ev]) = .returned (.tuple #[.string vv, .nilIface]) := hres
            injection hre with hre
            simp only [Value.tuple.injEq, Array.mk.injEq, List.cons.injEq, Value.string.injEq, and_true] at hre
            obtain ⟨rfl, rfl⟩ := hre
            clear hres
            have HVF : Hid (lookA G root key = .inl (some vs)) := Lib.hid (by rw [HVE.out, HVA.out])
            go_wp2_with fail
            go_region_held3 (fun _ => True) (trivial)
              (first
                | (go_at_call 40; (with_reducible refine (wrap_nil _ _).mono ?_); rintro e w5 ⟨rfl, rfl⟩)
                | fail)
            all_goals
              go_wp2_with fail
              refine bodyPost_ret (v := .tuple #[.string vs, .bool true, .nilIface]) (by simp [results, Tryz.results11, go_sem]) rfl ?_
              exact ⟨P4, F4, HG4.out.at (Mods.refl _ w4).drew, HN4.out.trans (Nxt.ext HN4.out.env HN4.out.sub (Mods.refl _ w4).drew), by rw [HVF.out]; rfl⟩
          · obtain ⟨f, hre, hE⟩ := hres
            injection hre with hre
            simp only [Value.tuple.injEq, Array.mk.injEq, List.cons.injEq, Value.string.injEq, and_true] at hre
            obtain ⟨rfl, rfl⟩ := hre
            have HE := Lib.hid hE
            clear hE
            have HVF : Hid (lookA G root key = .inr (-1 :: el, ek)) := Lib.hid (by rw [HVE.out, HVA.out])
            go_wp2_with fail
            go_region_held3 (fun _ => True) (trivial)
              (first
                | (go_at_call 40; (with_reducible refine (wrap_any (HN4.out.env.mods (Mods.refl _ w4).drew) _ _ _ _ (HE.out.mods (Mods.refl _ w4).drew)).mono ?_); rintro e w5 ⟨f5, rfl, hE5, hm5⟩)
                | fail)
            all_goals
              have HE5 := Lib.hid hE5
              have HM5 := Lib.hid (((Mods.refl (fun _ => False) w4).drew).trans hm5)
              clear hE5 hm5
              go_wp2_with fail
              refine bodyPost_ret (v := .tuple #[.string ⟨#[]⟩, .bool false, faultV f5]) (by simp [results, Tryz.results11, go_sem]) rfl ?_
              exact ⟨P4, F4, HG4.out.at HM5.out, HN4.out.trans (Nxt.ext HN4.out.env HN4.out.sub HM5.out), by rw [HVF.out]; exact ⟨f5, rfl, HE5.out⟩⟩
      · obtain ⟨f, rfl, hE⟩ := hres
        have HE := Lib.hid hE
        clear hE
        have m2 : Ext w2 (w2.alloc (.cells #[.bool false, .slice none 0 0, .slice none 0 0, .slice none 0 0] 57)) := (Mods.refl _ w2).alloc _
        have HM2 := Lib.hid m2
        clear m2
        go_wp2_with fail
        refine (wrap_any (HN2.out.env.mods HM2.out.ext) _ _ _ _ (HE.out.mods HM2.out.ext)).mono ?_
        rintro e w3 ⟨f3, rfl, hE3, hm3⟩
        have HE3 := Lib.hid hE3
        have HM3 := Lib.hid (HM2.out.trans hm3)
        clear hE3 hm3
        go_wp2_with fail
        refine bodyPost_ret (v := .tuple #[.string ⟨#[]⟩, .bool false, faultV f3]) (by simp [results, Tryz.results11, go_sem]) rfl ?_
        exact ⟨P2, F2, HG2.out.at HM3.out, (HN1.out.trans HN2.out).trans (Nxt.ext HN2.out.env HN2.out.sub HM3.out), by rw [HV.out, HFA.out]; exact ⟨f3, rfl, HE3.out⟩⟩
end
end Go.Proofs.YtmgfneijcfjlfaaGreatDoor
namespace Go.Proofs.YtmgfneijcfjlfaaGreatDoor
open Go.RowKit
section
variable {P P' F F' : Nat → Prop} {ad : Nat → Addr} {w w' : World} {c s : Nat} {G G' : GA} {l l' : List Nat}
theorem pgMark (hL : Env F ad w) (hP : ∀ k, P k → F k) (h : PgR F w P c s G l) (id : Int) :
    Calls Tryz.prog 37 #[.pointer (some ⟨s, 0, none⟩), .int .i64 id] w (PgDone F P ad w c s G (spMark l id).1 (fun F' w' e => ∃ ev, e = .returned ev ∧ ErrR F' ad w' ev (spMark l id).2)) := by
  obtain ⟨d, sb, bvs, Pd, b2, C, h1, h2, h3, h4, h5, h6, h7⟩ := h
  refine (Mark_any hL s b2 l h5 id).mono ?_
  rintro e w' ⟨ev, rfl, k1, k2, k3⟩
  obtain ⟨q1, q2⟩ := PgR.space hL hP h1 h2 h3 h4 h6 h7 k2 k3
  exact ⟨P, F, q1, q2, ev, rfl, k1⟩
end
def PagerOf (ad : Nat → Addr) (w : World) (gen : Nat) (ps : List PageA) (e : Ending) (w' : World) : Prop :=
  ∃ (c s : Nat) (P F : Nat → Prop), e = .returned (.tuple #[pgV c s gen, .bool true]) ∧ PgR F w' P c s (putsG (G0 200) ps) (marksS (spNew 200) ps) ∧ Nxt NoB P NoB F ad w w'
/-- while pages are put: behind k of them. -/
def FilS (ad : Nat → Addr) (w0 : World) (F0 : Nat → Prop) (c s : Nat) (ps : List PageA) (k : Nat) (wr : World) : Prop :=
  ∃ P F, PgR F wr P c s (putsG (G0 200) (ps.take k)) (marksS (spNew 200) (ps.take k)) ∧ Nxt NoB P F0 F ad w0 wr
set_option maxRecDepth 100000 in
set_option maxHeartbeats 2000000 in
theorem pagerOf_any {ad : Nat → Addr} {w : World} (hL : Env NoB ad w) (xs : List PgE) (pv : Value) (hp : Sl NoB w 4 encPg pv xs) (hb : ∀ x ∈ xs, Sl NoB w 1 encB (svE x) x.1.body) (hok : PutsOk 200 (xs.map (·.1))) (hlen : xs.length ≤ 1000) :
    Calls Tryz.prog 10 #[pv] w (PagerOf ad w 5 (xs.map (·.1))) := by
  have m0 : Ext w (w.alloc (.cells #[.pointer none, .pointer none, .int .u64 0] 34)) := (Mods.refl _ w).alloc _
  have HL := Lib.hid (hL.withR m0 (by simp))
  have HB0 := Lib.hid (Blk.new w #[.pointer none, .pointer none, .int .u64 0] 34)
  have HL0 := Lib.hid hL
  have HM0 := Lib.hid m0
  have HBD := Lib.hid hb
  have HOK := Lib.hid hok
  obtain ⟨la, lc, rfl, h1, h2, h3, hll⟩ := hp
  unfold maxLen at h2
  have HLL := Lib.hid hll
  clear hL m0 hb hok hll
  go_enter Tryz.func10, Tryz.ntmps10
  go_wp2_with fail
  refine (dkNew_ok 200 256 (by omega) (by omega) (by omega) (by omega)).mono ?_
  rintro e w1 ⟨d, Pd, rfl, hD, hn, hm⟩
  have HN1 := Lib.hid (Nxt.of (P := NoB) (P' := Pd) HL.out (fun _ h => h.elim) ⟨hm, fun k hk h => by have := hn k h; omega, hD.bd⟩)
  have HD := Lib.hid hD
  clear hD hn hm
  go_wp2_with fail
  refine (caNew_ok HN1.out.env (fun _ h => .inr h) HD.out 6 (by omega) (by omega)).mono ?_
  rintro e w2 ⟨c, sb, bvs, F2, rfl, hC, hN2⟩
  have HC := Lib.hid hC
  have HN2 := Lib.hid (HN1.out.trans hN2)
  clear hC hN2
  go_wp2_with fail
  refine (spNew_any 200 (by omega) (by omega)).mono ?_
  rintro e w3 ⟨s, b2, rfl, hS, h1', h2', hm3⟩
  obtain ⟨P, F, hG, hN⟩ := PgR.made (s := s) (b2 := b2) (by omega) (by omega) (q := 6) (by omega) (by omega) HC.out HN2.out hS hm3 h1' h2'
  have HS0 : Hid (FilS ad _ _ c s (xs.map (·.1)) 0 w3) := Lib.hid ⟨P, F, hG, hN⟩
  clear hS h1' h2' hm3 hG hN
  go_wp2_with fail
  go_loopg [10] xs.length (fun m v10 wr => ∃ (k : Nat), k + m = xs.length ∧ v10 = .int .i64 (k : Int) ∧ Hid (FilS ad (w.alloc (.cells #[.pointer none, .pointer none, .int .u64 0] 34)) (plusR NoB w.heap.size) c s (xs.map (·.1)) k wr))
  case atStart => exact ⟨0, by omega, rfl, HS0⟩
  case round =>
    obtain ⟨k, hkm, rfl, HS⟩ := hrel
    obtain ⟨P, F, hG, hN⟩ := HS.out
    have HG := Lib.hid hG
    have HN := Lib.hid hN
    have HEX : Hid (Ext w wr) := Lib.hid (HM0.out.trans hN.stp.mods)
    clear hG hN
    by_cases hlt : k < xs.length
    · obtain ⟨b, off, rfl, hbb, hF, hc⟩ := Sl.at HLL.out HEX.out (fun _ _ f => f.elim) k hlt
      obtain ⟨x, hx⟩ : ∃ x, xs[k]? = some x := ⟨_, List.getElem?_eq_getElem hlt⟩
      have hx' : xs[k] = x := by rw [List.getElem?_eq_getElem hlt] at hx; exact Option.some.inj hx
      rw [hx'] at hc
      obtain ⟨⟨pk, pi, pg, body⟩, ba, bn, bc⟩ := x
      have c0 : wr.cell? ⟨b, off + k * 4, none⟩ = some (.int .i64 pk) := hc 0 _ rfl
      have c1 : wr.cell? ⟨b, off + k * 4 + 1, none⟩ = some (.int .i64 pi) := hc 1 _ rfl
      have c2 : wr.cell? ⟨b, off + k * 4 + 2, none⟩ = some (.int .u64 (pg : Int)) := hc 2 _ rfl
      have c3 : wr.cell? ⟨b, off + k * 4 + 3, none⟩ = some (.slice ba bn bc) := hc 3 _ rfl
      have hpx : (xs.map (·.1))[k]? = some ⟨pk, pi, pg, body⟩ := by rw [List.getElem?_map, hx]; rfl
      have hpm := List.mem_of_getElem? hpx
      have hbS : Sl F wr 1 encB (.slice ba bn bc) body := (HBD.out _ (List.mem_of_getElem? hx)).step HEX.out (fun q hq _ hf => by
        rcases HN.out.oldF q (Nat.lt_of_lt_of_le hq HM0.out.size) hf with h | h
        · exact h
        · omega)
      have hid := HOK.out.id _ hpm
      have hsm := putsG_same ((xs.map (·.1)).take k) (G0 200)
      have HPX := Lib.hid hpx
      have HPUT := Lib.hid (pgPut HN.out.env HN.out.sub HG.out ⟨pk, pi, pg, body⟩ (.slice ba bn bc) hbS (HOK.out.gen _ hpm) ⟨by omega, by rw [hsm.1]; exact hid.2⟩ (by rw [hsm.2.1]; exact HOK.out.ok _ hpm) (by rw [hsm.2.2]; have h9 : (G0 200).cost = 0 := rfl; rw [h9]; simp only [List.length_take, List.length_map]; omega))
      unfold pageV at HPUT
      simp only at HPUT
      have HID := Lib.hid hid
      clear hc hx hx' hpx hpm hbS hid hsm
      have i1 : (0 : Int) ≤ (k : Int) := by omega
      have i2 : (k : Int) < (xs.length : Int) := by omega
      go_wp2_with fail
      refine (HPUT.out).mono ?_
      rintro e w4 ⟨P4, F4, hG4, hN4, rfl⟩
      have y1 := cellM hN4.stp.mods c1 (fun hp => by
        have := HN.out.stp.old b (by have := HM0.out.size; omega) hp
        exact this)
      have HG4 := Lib.hid hG4
      have HN4 := Lib.hid (HN.out.trans hN4)
      have HMK : Hid (spMark (marksS (spNew 200) ((xs.map (·.1)).take k)) pi = (marksS (spNew 200) ((xs.map (·.1)).take (k + 1)), none)) := Lib.hid (HOK.out.new (by omega) HPX.out)
      clear hG4 hN4 c0 c1 c2 c3
      go_wp2_with fail
      refine (pgMark HN4.out.env HN4.out.sub HG4.out pi).mono ?_
      rintro e w5 ⟨P5, F5, hG5, hN5, ev, rfl, hev⟩
      rw [HMK.out] at hG5 hev
      cases hev
      have HS5 : Hid (FilS ad (w.alloc (.cells #[.pointer none, .pointer none, .int .u64 0] 34)) (plusR NoB w.heap.size) c s (xs.map (·.1)) (k + 1) w5) := Lib.hid ⟨P5, F5, by rw [← PutsOk.put HPX.out]; exact hG5, HN4.out.trans hN5⟩
      clear hG5 hN5 y1
      go_wp2_with fail
      go_roundg (gk - 1)
      case measure => omega
      case rel => exact ⟨k + 1, by omega, by go_num, HS5⟩
    · have HT : Hid ((xs.map (·.1)).take k = xs.map (·.1)) := Lib.hid (List.take_of_length_le (by simp; omega))
      have rb := HN.out.blk HB0.out (fun f => f)
      have r0 := rb.cell (o := 0) rfl
      have r1 := rb.cell (o := 1) rfl
      have r2 := rb.cell (o := 2) rfl
      have rf := rb.frozen
      have hR : ∀ k, P k → k ≠ w.heap.size := fun k hk e => by
        subst e; exact HN.out.stp.old _ (by simp) hk
      have mR : Mods (fun k => k = w.heap.size) wr (((wr.setCell ⟨w.heap.size, 0, none⟩ (.pointer (some ⟨c, 0, none⟩))).setCell ⟨w.heap.size, 1, none⟩ (.pointer (some ⟨s, 0, none⟩))).setCell ⟨w.heap.size, 2, none⟩ (.int .u64 5)) := Mods.set3 (F := fun k => k = w.heap.size) (Mods.refl _ wr) (.inr rfl) _ _ _
      have hG4 := HG.out.plus (F' := F) mR hR (fun k hk => HN.out.grow k (.inr hk)) (fun _ _ h => h)
      rw [HT.out] at hG4
      have HG4 := Lib.hid hG4
      have HNN : Hid (Nxt NoB P NoB F ad w (((wr.setCell ⟨w.heap.size, 0, none⟩ (.pointer (some ⟨c, 0, none⟩))).setCell ⟨w.heap.size, 1, none⟩ (.pointer (some ⟨s, 0, none⟩))).setCell ⟨w.heap.size, 2, none⟩ (.int .u64 5))) := Lib.hid ⟨⟨(Mods.set3 (HM0.out.trans HN.out.stp.mods) (.inl (Nat.le_refl w.heap.size)) (.pointer (some ⟨c, 0, none⟩)) (.pointer (some ⟨s, 0, none⟩)) (.int .u64 5)), fun k hk hp => HN.out.stp.old k (Nat.lt_of_lt_of_le hk HM0.out.size) hp, fun k hk => Nat.lt_of_lt_of_le (HN.out.stp.bd k hk) mR.size⟩,
        HN.out.sub, fun _ h => h.elim, fun k hk hf => (HN.out.oldF k (Nat.lt_of_lt_of_le hk HM0.out.size) hf).elim id (fun e => by omega), HN.out.env.mods (mR.mono (fun k hk => HN.out.grow k (.inr hk)))⟩
      have HBR := Lib.hid (Blk.set3 rb (.pointer (some ⟨c, 0, none⟩)) (.pointer (some ⟨s, 0, none⟩)) (.int .u64 5))
      clear hG4 mR hR rb
      go_wp2_with fail
      refine bodyPost_ret (results_row_tmp rfl _ _ w.heap.size 34 #[.pointer (some ⟨c, 0, none⟩), .pointer (some ⟨s, 0, none⟩), .int .u64 5] _ rfl HBR.out Tryz.underlying34 rfl Tryz.pagerSize) rfl ?_
      exact ⟨c, s, P, F, rfl, HG4.out, HNN.out⟩
end Go.Proofs.YtmgfneijcfjlfaaGreatDoor
namespace Go.Proofs.YtmgfneijcfjlfaaGreatDoor
open Go.RowKit
theorem pgV5 (c s : Nat) : pgV c s 5 = .agg #[.pointer (some ⟨c, 0, none⟩), .pointer (some ⟨s, 0, none⟩), .int .u64 5] := rfl
structure LG (ad : Nat → Addr) (w0 w : World) (B c s gen : Nat) (P F : Nat → Prop) (G : GA) (l : List Nat) : Prop where
  pg : PgR F w P c s G l
  nx : Nxt NoB P NoB F ad w0 w
  box : Blk w B #[.pointer (some ⟨c, 0, none⟩), .pointer (some ⟨s, 0, none⟩), .int .u64 (gen : Int)] 34
  nB : ¬ P B
  nF : ¬ F B
section
variable {ad : Nat → Addr} {w0 w w' : World} {B c s gen : Nat} {P P' F F' : Nat → Prop} {G G' : GA} {l l' : List Nat}
theorem LG.env (h : LG ad w0 w B c s gen P F G l) : Env F ad w := h.nx.env
theorem LG.sub (h : LG ad w0 w B c s gen P F G l) : ∀ k, P k → F k := h.nx.sub
theorem LG.step (h : LG ad w0 w B c s gen P F G l) (n : Nxt P P' F F' ad w w') (g : PgR F' w' P' c s G' l') : LG ad w0 w' B c s gen P' F' G' l' :=
  ⟨g, h.nx.trans n, n.blk h.box h.nB, n.not h.box.lt h.nB, fun f => h.nF (n.oldF B h.box.lt f)⟩
theorem LG.ext (h : LG ad w0 w B c s gen P F G l) (m : Ext w w') : LG ad w0 w' B c s gen P F G l := h.step (Nxt.ext h.env h.sub m) (h.pg.at m)
theorem LG.drew (h : LG ad w0 w B c s gen P F G l) : LG ad w0 w.drew B c s gen P F G l := h.ext (Mods.refl _ w).drew
theorem LG.ext0 (h : LG ad w0 w B c s gen P F G l) : Ext w0 w := h.nx.stp.mods
theorem LG.c0 (h : LG ad w0 w B c s gen P F G l) : w.cell? ⟨B, 0, none⟩ = some (.pointer (some ⟨c, 0, none⟩)) := h.box.cell rfl
theorem LG.c1 (h : LG ad w0 w B c s gen P F G l) : w.cell? ⟨B, 1, none⟩ = some (.pointer (some ⟨s, 0, none⟩)) := h.box.cell rfl
theorem LG.c2 (h : LG ad w0 w B c s gen P F G l) : w.cell? ⟨B, 2, none⟩ = some (.int .u64 (gen : Int)) := h.box.cell rfl
theorem LG.start (g : PgR F w P c s G l) (n : Nxt NoB P NoB F ad w0 w) : LG ad w0 (w.alloc (.cells #[.pointer (some ⟨c, 0, none⟩), .pointer (some ⟨s, 0, none⟩), .int .u64 (gen : Int)] 34)) w.heap.size c s gen P F G l :=
  ⟨g.at ((Mods.refl _ w).alloc _), n.trans (Nxt.ext n.env n.sub ((Mods.refl _ w).alloc _)), Blk.new w _ _, fun f => by have := g.bd _ f; omega, fun f => by have := n.env.lt _ f; omega⟩
theorem LG.startZ (g : PgR F w P c s G l) (n : Nxt NoB P NoB F ad w0 w) (z : Int) (hz : z = (gen : Int)) : LG ad w0 (w.alloc (.cells #[.pointer (some ⟨c, 0, none⟩), .pointer (some ⟨s, 0, none⟩), .int .u64 z] 34)) w.heap.size c s gen P F G l := by
  subst hz; exact LG.start g n
/-- a block that is old when the law's pager comes is as it was. -/
theorem LG.old {b : Nat} {cs : Array Value} {t : TypeId} (h : LG ad w0 w B c s gen P F G l) (hb : Blk w0 b cs t) : Blk w b cs t := hb.ext h.ext0
/-- .. and what lies there reads as it did, and is left alone. -/
theorem LG.sl {α : Type} {sz : Nat} {enc : α → List Value} {v : Value} {x : List α} (h : LG ad w0 w B c s gen P F G l) (hv : Sl NoB w0 sz enc v x) : Sl F w sz enc v x :=
  hv.step h.ext0 (fun k hk _ hf => (h.nx.oldF k hk hf).elim)
/-- the state behind a call: the pager's, with what is known. -/
def LgDone (ad : Nat → Addr) (w0 : World) (B c s gen : Nat) (G : GA) (l : List Nat) (R : (Nat → Prop) → World → Ending → Prop) (e : Ending) (w' : World) : Prop :=
  ∃ P' F', LG ad w0 w' B c s gen P' F' G l ∧ R F' w' e
theorem LG.done (h : LG ad w0 w B c s gen P F G l) {R : (Nat → Prop) → World → Ending → Prop} {e : Ending} (hd : PgDone F P ad w c s G' l' R e w') : LgDone ad w0 B c s gen G' l' R e w' := by
  obtain ⟨P', F', g, n, r⟩ := hd
  exact ⟨P', F', h.step n g, r⟩
end
/-- what is known of a tree that is put on a new pager. -/
structure TreeOn (ps : List PageA) (root d : Nat) (l : List PairS) : Prop where
  tame : Tame 300 l
  puts : PutsOk 200 ps
  on : OnG (putsG (G0 200) ps) ps
  tree : TreeG (putsG (G0 200) ps) root d l
  few : ps.length ≤ 100
theorem tree_on {l : List PairS} (hT : Tame 300 l) {e k : Nat} (he : 1 ≤ e) (he3 : e ≤ 3) (hk : 2 ≤ k) (hk4 : k ≤ 4) : TreeOn (buildA 5 e k l).1 (buildA 5 e k l).2.1 (buildA 5 e k l).2.2 l := by
  have hf := hT.few 5 e k he hk
  obtain ⟨h1, h2⟩ := fit_puts (n := 200) (gen := 5) (by omega) (by omega) (build_fit 5 e k he he3 hk hk4 hT.ok (by omega)) (by omega)
  exact ⟨hT, h1, h2, tree_built hT he he3 hk hk4 h2, by omega⟩
theorem PgsR.pages {w : World} {base : Nat} {pv : Value} {xs : List PgE} (h : PgsR w base pv xs) (hl : xs.length ≤ 1000) (hb : ∀ x ∈ xs, x.1.body.length ≤ 1000) : Sl NoB w 4 encPg pv xs ∧ ∀ x ∈ xs, Sl NoB w 1 encB (svE x) x.1.body :=
  ⟨h.row.sl encPg_ok.len (by omega), fun x hx => (h.body x hx).sl encB_ok.len (by have := hb x hx; omega)⟩
theorem PutsOk.bodies {n : Nat} {ps : List PageA} (h : PutsOk n ps) : ∀ p ∈ ps, p.body.length ≤ 1000 := fun p hp => by
  have h1 := h.ok p hp
  unfold pgCheck at h1
  rw [if_neg (by decide)] at h1
  split at h1
  · cases h1
  · rename_i hc; omega
end Go.Proofs.YtmgfneijcfjlfaaGreatDoor
namespace Go.Proofs.YtmgfneijcfjlfaaGreatDoor
open Go.RowKit
attribute [local go_sem ↓] Go.wp_at_zero Go.wp_at_succ
section
variable {P P' P1 P2 F F' F1 F2 Q : Nat → Prop} {ad : Nat → Addr} {w w' wr w2 : World} {c s : Nat} {G : GA} {l : List Nat} {v v' : Value} {gen : Nat}
/-- where a pair is held. -/
structure HeldA (G : GA) (root : Int) (x : PairS) (st : List (Int × Nat)) (id : Int) (at_ : Nat) (n : NodeA) (e : EntryA) : Prop where
  path : pathA G root x.1 = .inl (st ++ [(id, at_)], true)
  load : G.load id = .inl n
  ent : n.entries[at_]? = some e
  val : valueA G e = .inl x.2
set_option maxRecDepth 100000 in
set_option maxHeartbeats 2000000 in
theorem held_any (hL : Env F ad w) (hP : ∀ k, P k → F k) (h : PgR F w P c s G l) (gen : Nat) (root : Int) (x : PairS) (hT : G.total) {st : List (Int × Nat)} {id : Int} {at_ : Nat} {n : NodeA} {en : EntryA} (hA : HeldA G root x st id at_ n en) (hst : st.length ≤ 1000) :
    Calls Tryz.prog 16 #[pgV c s gen, .int .i64 root, .agg #[.string x.1, .string x.2]] w (PgDone F P ad w c s G l (fun _ _ e => e = .returned (.bool true))) := by
  have m0 : Ext w ((w.alloc (.cells #[.pointer (some ⟨c, 0, none⟩), .pointer (some ⟨s, 0, none⟩), .int .u64 (gen : Int)] 34)).alloc (.cells #[.string x.1, .string x.2] 47)) := ((Mods.refl _ w).alloc _).alloc _
  have HN0 := Lib.hid (Nxt.ext hL hP m0)
  have HG0 := Lib.hid (h.at m0)
  have HB0 : Hid (Blk ((w.alloc (.cells #[.pointer (some ⟨c, 0, none⟩), .pointer (some ⟨s, 0, none⟩), .int .u64 (gen : Int)] 34)).alloc (.cells #[.string x.1, .string x.2] 47)) w.heap.size #[.pointer (some ⟨c, 0, none⟩), .pointer (some ⟨s, 0, none⟩), .int .u64 (gen : Int)] 34) := Lib.hid ((Blk.new w _ _).alloc _)
  have HX0 : Hid (Blk ((w.alloc (.cells #[.pointer (some ⟨c, 0, none⟩), .pointer (some ⟨s, 0, none⟩), .int .u64 (gen : Int)] 34)).alloc (.cells #[.string x.1, .string x.2] 47)) (w.heap.size + 1) #[.string x.1, .string x.2] 47) := Lib.hid (heap_at (by simp))
  have HBP : Hid (¬ P w.heap.size ∧ ¬ P (w.heap.size + 1)) := Lib.hid ⟨fun hp => by have := h.bd _ hp; omega, fun hp => by have := h.bd _ hp; omega⟩
  have HA := Lib.hid hA
  have HT := Lib.hid hT
  have hat : at_ < n.entries.length := (List.getElem?_eq_some_iff.1 hA.ent).1
  have HPC := Lib.hid (path_any HN0.out.env HN0.out.sub HG0.out gen root x.1 (hT.find x.1 16 root))
  rw [hA.path] at HPC
  have HAT := Lib.hid hat
  have HRG : Hid (-9223372036854775808 ≤ en.chain ∧ en.chain ≤ 9223372036854775807) := Lib.hid (by
    have k1 := GA.load_right hA.load
    have k2 : n.leaf = true := by
      cases hl : n.leaf with
      | true => rfl
      | false =>
        exfalso
        have := k1
        unfold rightN at this
        rw [if_neg (by rw [hl]; simp)] at this
        simp only [Bool.and_eq_true, List.isEmpty_iff] at this
        have h3 : n.entries = [] := by simp_all
        rw [h3] at hat; simp at hat
    have h3 := right_entry k2 k1 hA.ent
    unfold rightE at h3
    simp only [Bool.and_eq_true] at h3
    have h4 := h3.2
    split at h4
    · omega
    · simp only [Bool.and_eq_true, decide_eq_true_eq, kidB] at h4; omega)
  clear hL hP h m0 hA hT hat
  unfold pgV at HPC ⊢
  go_enter Tryz.func16, Tryz.ntmps16
  go_wp2_with fail
  refine (HPC.out).mono ?_
  rintro e w1 ⟨P1, F1, hG1, hN1, sv, rfl, hsl⟩
  obtain ⟨sa, sc, rfl, hs1, hs2, _, hss⟩ := hsl
  unfold maxLen at hs2
  have hlen : (st ++ [(id, at_)]).length = st.length + 1 := by simp
  obtain ⟨sb, so, rfl, hsb, hsF, hsc⟩ := Sl.at hss (Mods.refl F1 w1) (fun _ _ f => f) st.length (by rw [hlen]; omega)
  have hel : (st ++ [(id, at_)])[st.length] = (id, at_) := by simp
  rw [hel] at hsc
  have c0 : w1.cell? ⟨sb, so + st.length * 2, none⟩ = some (.int .i64 id) := hsc 0 _ rfl
  have c1 : w1.cell? ⟨sb, so + st.length * 2 + 1, none⟩ = some (.int .i64 (at_ : Int)) := hsc 1 _ rfl
  obtain ⟨nn, hnn⟩ : ∃ nn, nn = (st ++ [(id, at_)]).length := ⟨_, rfl⟩
  rw [← hnn] at hs1 ⊢
  have hn1 : nn = st.length + 1 := by omega
  have HA2 := Lib.hid HA.out.load
  have m2 : Ext w1 (w1.alloc (.cells #[.int .i64 id, .int .i64 (at_ : Int)] 63)) := (Mods.refl _ w1).alloc _
  have HLD := Lib.hid (load_any (hN1.env.mods m2.ext) hN1.sub (hG1.at m2) gen id (HT.out.knows id))
  have hX1 := (hN1.blk HX0.out HBP.out.2).ext m2
  have hB1 := hN1.blk HB0.out HBP.out.1
  have hl1 := hB1.lt
  have p0 := hB1.cell (o := 0) (v := .pointer (some ⟨c, 0, none⟩)) rfl
  have p1 := hB1.cell (o := 1) (v := .pointer (some ⟨s, 0, none⟩)) rfl
  have p2 := hB1.cell (o := 2) (v := .int .u64 (gen : Int)) rfl
  have hj : ((nn : Int) - 1).toNat = st.length := by omega
  have j0 : (0 : Int) ≤ (nn : Int) - 1 := by omega
  have j1 : (nn : Int) - 1 < (nn : Int) := by omega
  have j2 : ((nn : Int) == 0) = false := by rw [beq_eq_false_iff_ne]; omega
  have j3 : IntKind.i64.wrap ((nn : Int) - 1) = (nn : Int) - 1 := IntWalk.i64_in _ (by omega)
  have HNB1 : Hid (¬ P1 w.heap.size ∧ ¬ P1 (w.heap.size + 1) ∧ ¬ P1 w1.heap.size) := Lib.hid ⟨hN1.not HB0.out.lt HBP.out.1, hN1.not HX0.out.lt HBP.out.2, fun hp => by have := hN1.stp.bd _ hp; omega⟩
  have HB1 := Lib.hid (hB1.ext m2)
  have HX1 := Lib.hid hX1
  have HS1 := Lib.hid (Blk.new w1 #[.int .i64 id, .int .i64 (at_ : Int)] 63)
  have HG1 := Lib.hid (hG1.at m2)
  have HN1 := Lib.hid ((HN0.out.trans hN1).trans (Nxt.ext hN1.env hN1.sub m2))
  unfold pgV at HLD
  clear hG1 hN1 hB1 hX1 hlen hn1 hss hel hsc m2
  go_wp2_with fail
  refine (HLD.out).mono ?_
  rintro e w2 ⟨P2, F2, hG2, hN2, hres⟩
  rw [HA2.out] at hres
  obtain ⟨ve, vk, vi, rfl, hse, hsk, hsi⟩ := hres
  obtain ⟨ea, ec, rfl, hec1, hec2, hec3, hee⟩ := hse
  obtain ⟨ka, kc, rfl, _, _, _, _⟩ := hsk
  obtain ⟨ia, ic, rfl, _, _, _, _⟩ := hsi
  unfold maxLen at hec2
  have hat := HAT.out
  have m3 : Ext w2 (w2.alloc (.cells #[.bool n.leaf, .slice ea n.entries.length ec, .slice ka n.keys.length kc, .slice ia n.kids.length ic] 57)) := (Mods.refl _ w2).alloc _
  obtain ⟨eb, eoff, rfl, _, hebF, hc4⟩ := Sl.at hee m3 (fun _ _ f => f.elim) at_ hat
  have hen : n.entries[at_] = en := by have := HA.out.ent; rw [List.getElem?_eq_getElem hat] at this; exact Option.some.inj this
  rw [hen] at hc4
  have c0 := hc4 0 _ rfl
  simp only [Nat.add_zero] at c0
  have c1 := hc4 1 _ rfl
  have c2 := hc4 2 _ rfl
  have c3 := hc4 3 _ rfl
  have HX3 := Lib.hid (Blk.new w2 #[.bool n.leaf, .slice (some ⟨eb, eoff, none⟩) n.entries.length ec, .slice ka n.keys.length kc, .slice ia n.kids.length ic] 57)
  have x1 := HX3.out.cell (o := 1) (v := .slice (some ⟨eb, eoff, none⟩) n.entries.length ec) rfl
  have hB2 := (hN2.blk HB1.out HNB1.out.1).ext m3
  have p0 := hB2.cell (o := 0) (v := .pointer (some ⟨c, 0, none⟩)) rfl
  have p1 := hB2.cell (o := 1) (v := .pointer (some ⟨s, 0, none⟩)) rfl
  have p2 := hB2.cell (o := 2) (v := .int .u64 (gen : Int)) rfl
  have hS2 := (hN2.blk HS1.out HNB1.out.2.2).ext m3
  have s1 := hS2.cell (o := 1) (v := .int .i64 (at_ : Int)) rfl
  have hX2 := (hN2.blk HX1.out HNB1.out.2.1).ext m3
  have q1 := hX2.cell (o := 1) (v := .string x.2) rfl
  have i0 : (0 : Int) ≤ (at_ : Int) := by omega
  have i1 : (at_ : Int) < (n.entries.length : Int) := by omega
  have HNB2 : Hid (¬ P2 w.heap.size ∧ ¬ P2 (w.heap.size + 1) ∧ ¬ P2 w1.heap.size ∧ ¬ P2 w2.heap.size ∧ ¬ P2 eb) := Lib.hid ⟨hN2.not HB1.out.lt HNB1.out.1, hN2.not HX1.out.lt HNB1.out.2.1, hN2.not HS1.out.lt HNB1.out.2.2, fun hp => by have := hN2.stp.bd _ hp; omega, fun hp => hebF (hN2.sub _ hp)⟩
  have HVC := Lib.hid (value_any (hN2.env.mods m3.drew.ext) hN2.sub (hG2.at m3.drew) gen en HRG.out (HT.out.value en))
  rw [HA.out.val] at HVC
  unfold pgV at HVC
  have HG2 := Lib.hid hG2
  have HN2 := Lib.hid ((HN1.out.trans hN2).trans (Nxt.ext hN2.env hN2.sub m3.drew))
  clear hat m3 hen hc4 hB2 hS2 hX2 hG2 hN2 hee j0 j1 j2 j3 hj hec1 hs1
  go_wp2_with fail
  go_region_held3 (fun w' => w'.cell? ⟨w.heap.size, 0, none⟩ = some (.pointer (some ⟨c, 0, none⟩)) ∧ w'.cell? ⟨w.heap.size, 1, none⟩ = some (.pointer (some ⟨s, 0, none⟩)) ∧ w'.cell? ⟨w.heap.size, 2, none⟩ = some (.int .u64 (gen : Int)) ∧ w'.cell? ⟨w2.heap.size, 1, none⟩ = some (.slice (some ⟨eb, eoff, none⟩) n.entries.length ec) ∧ w'.cell? ⟨w1.heap.size, 1, none⟩ = some (.int .i64 (at_ : Int)) ∧
      w'.cell? ⟨eb, eoff + at_ * 4, none⟩ = some (.string en.key) ∧ w'.cell? ⟨eb, eoff + at_ * 4 + 1, none⟩ = some (.string en.value) ∧ w'.cell? ⟨eb, eoff + at_ * 4 + 2, none⟩ = some (.int .i64 en.chain) ∧ w'.cell? ⟨eb, eoff + at_ * 4 + 3, none⟩ = some (.int .i64 en.size))
    (first | (with_reducible exact ⟨p0, p1, p2, x1, s1, c0, c1, c2, c3⟩) | (with_reducible exact ⟨y0, y1, y2, y3, y4, z0, z1, z2, z3⟩) | go_keep)
    (first
      | (go_at_call 42; (with_reducible refine (HVC.out).mono ?_); rintro e w4 ⟨P4, F4, hG4, hN4, hres⟩; obtain ⟨vs, ev, rfl⟩ := hres.form; have y0 := cellM hN4.stp.mods p0 HNB2.out.1; have y1 := cellM hN4.stp.mods p1 HNB2.out.1; have y2 := cellM hN4.stp.mods p2 HNB2.out.1; have y3 := cellM hN4.stp.mods x1 HNB2.out.2.2.2.1; have y4 := cellM hN4.stp.mods s1 HNB2.out.2.2.1; have z0 := cellM hN4.stp.mods c0 HNB2.out.2.2.2.2; have z1 := cellM hN4.stp.mods c1 HNB2.out.2.2.2.2; have z2 := cellM hN4.stp.mods c2 HNB2.out.2.2.2.2; have z3 := cellM hN4.stp.mods c3 HNB2.out.2.2.2.2; have q2 := cellM hN4.stp.mods q1 HNB2.out.2.1)
      | fail)
  have hre : Ending.returned (.tuple #[.string vs, ev]) = .returned (.tuple #[.string x.2, .nilIface]) := hres
  injection hre with hre
  simp only [Value.tuple.injEq, Array.mk.injEq, List.cons.injEq, Value.string.injEq, and_true] at hre
  obtain ⟨rfl, rfl⟩ := hre
  have HG4 := Lib.hid hG4
  have HN4 := Lib.hid (HN2.out.trans hN4)
  clear p0 p1 p2 x1 s1 c0 c1 c2 c3 y0 y1 y2 y3 y4 z0 z1 z2 z3 hG4 hN4 hres q1
  go_wp2_with fail
  go_ret
  exact ⟨P4, F4, HG4.out, HN4.out, rfl⟩
end
end Go.Proofs.YtmgfneijcfjlfaaGreatDoor
