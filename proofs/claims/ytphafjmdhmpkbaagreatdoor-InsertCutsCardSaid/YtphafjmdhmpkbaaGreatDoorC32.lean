/- lookup.Get. | Pages as a row of the call's own, each with its body. Over any program but for the types' numbers. | The laws' pager of pages: a new disk, cache and space, each page put and marked. | The state of a law: its pager lies in a box. | law13.awake. | A right node of few entries and kids has few bytes. Plain. -/
import Derived.Test.YtphafjmdhmpkbaaGreatDoorC31
import Derived.Test.YtphafjmdhmpkbaaGreatDoorC25
import Derived.Test.YtphafjmdhmpkbaaGreatDoorC20
import Derived.Test.YtphafjmdhmpkbaaGreatDoorC17
import Derived.Test.YtphafjmdhmpkbaaGreatDoorC23
import Derived.Test.YtphafjmdhmpkbaaGreatDoorC16
namespace Go.Proofs.YtphafjmdhmpkbaaGreatDoor
open Go.RowKit
attribute [local go_sem ↓] Go.wp_at_zero Go.wp_at_succ
theorem ValRes.form {F:Nat→Prop} {ad:Nat→Addr} {w:World} {r:ByteArray ⊕ Err} {e:Ending} (h:ValRes F ad w r e):∃ v ev,e=.returned (.tuple #[.string v,ev]):=by
  rcases r with v | ⟨l,k⟩
  · exact ⟨v,_,h⟩
  · obtain ⟨f,h,_⟩:=h;exact ⟨_,_,h⟩
section
variable {P P' P1 P2 F F' F1 F2 Q:Nat→Prop} {ad:Nat→Addr} {w w' wr w2:World} {c s:Nat} {G:GA} {l:List Nat} {v v':Value} {gen:Nat}
set_option maxRecDepth 100000 in
set_option maxHeartbeats 1000000 in
theorem look_any (hL:Env F ad w) (hP:∀ k,P k→F k) (h:PgR F w P c s G l) (gen:Nat) (root:Int) (key:ByteArray) (hk:lookOk G root key) :
    Calls Tryz.prog 58 #[pgV c s gen,.int .i64 root,.string key] w (PgDone F P ad w c s G l (fun F' w' e=>LookRes F' ad w' (lookA G root key) e)):=by
  have m0:Ext w (w.alloc (.cells #[.pointer (some ⟨c,0,none⟩),.pointer (some ⟨s,0,none⟩),.int .u64 (gen:Int)] 45)):=(Mods.refl _ w).alloc _
  have HN0:=Lib.hid (Nxt.ext hL hP m0)
  have HG0:=Lib.hid (h.at m0)
  have HB0:=Lib.hid (Blk.new w #[.pointer (some ⟨c,0,none⟩),.pointer (some ⟨s,0,none⟩),.int .u64 (gen:Int)] 45)
  have HK:=Lib.hid hk
  have HBP:Hid (¬ P w.heap.size):=Lib.hid (fun hp=>by have:=h.bd _ hp;omega)
  clear hL hP h hk m0
  have HCK:=fun op=>lkCheck_any (c:=c) (s:=s) HN0.out.env op gen key
  have HFD:=fun (F1 P1:Nat→Prop) (wr:World) (h1:Env F1 ad wr) (h2:∀ k,P1 k→F1 k) (h3:PgR F1 wr P1 c s G l)=>find_any h1 h2 h3 gen root key HK.out.1
  unfold pgV at HCK HFD ⊢
  have HCK:=Lib.hid HCK
  have HFD:=Lib.hid HFD
  go_enter Tryz.func58, Tryz.ntmps58
  go_wp2_with fail
  refine (HCK.out _).mono ?_
  rintro e w1 ⟨ev,rfl,hE,hm1⟩
  have hB1:=HB0.out.ext hm1
  have b0:=hB1.cell (o:=0) (v:=.pointer (some ⟨c,0,none⟩)) rfl
  have b1:=hB1.cell (o:=1) (v:=.pointer (some ⟨s,0,none⟩)) rfl
  have b2:=hB1.cell (o:=2) (v:=.int .u64 (gen:Int)) rfl
  have HN1:=Lib.hid (HN0.out.trans (Nxt.ext HN0.out.env HN0.out.sub hm1))
  have HB1:=Lib.hid hB1
  have HG1:=Lib.hid (HG0.out.at hm1)
  clear hm1 hB1
  cases hc:lkCheck key with
  | some er =>
    obtain ⟨el,ek⟩:=er
    rw [hc] at hE
    obtain ⟨f,rfl,hE⟩:=hE
    have HE:=Lib.hid hE
    have HV:Hid (lookA G root key=.inr (el,ek)):=Lib.hid (by unfold lookA;rw [hc])
    clear hE hc
    go_wp2_with fail
    refine bodyPost_ret (v:=.tuple #[.string ⟨#[]⟩,.bool false,faultV f]) (by simp [results,Tryz.results58,go_sem]) rfl ?_
    exact ⟨P,F,HG1.out,HN1.out,by rw [HV.out];exact ⟨f,rfl,HE.out⟩⟩
  | none =>
    rw [hc] at hE
    cases hE
    by_cases hr:root=0
    · have hrb:(root == 0)=true:=beq_iff_eq.2 hr
      have HV:Hid (lookA G root key=.inl none):=Lib.hid (by unfold lookA;rw [hc];simp only [if_pos hr])
      clear hc hr
      go_wp2_with fail
      refine bodyPost_ret (v:=.tuple #[.string ⟨#[]⟩,.bool false,.nilIface]) (by simp [results,Tryz.results58,go_sem]) rfl ?_
      exact ⟨P,F,HG1.out,HN1.out,by rw [HV.out];rfl⟩
    · have hrb:(root == 0)=false:=beq_eq_false_iff_ne.2 hr
      have HV:Hid (lookA G root key=match findA G key 16 [] root with | .inr (l,k)=>.inr (-1 :: l,k) | .inl (_,n)=>(match n.entries[(findN n key).1]? with | none=>.inl none | some e=>if (findN n key).2=true then (match valueA G e with | .inl v=>.inl (some v) | .inr (l,k)=>.inr (-1 :: l,k)) else .inl none)):=Lib.hid (by unfold lookA;rw [hc];simp only [if_neg hr];rfl)
      clear hc hr
      go_wp2_with fail
      refine (HFD.out F P _ HN1.out.env HN1.out.sub HG1.out).mono ?_
      rintro e w2 ⟨P2,F2,hG2,hN2,hres⟩
      have HG2:=Lib.hid hG2
      have HN2:=Lib.hid hN2
      clear hG2 hN2
      generalize hfa:findA G key 16 [] root=r at hres
      have HFA:=Lib.hid hfa
      clear hfa
      rcases r with ⟨st,n⟩ | ⟨el,ek⟩
      · obtain ⟨sv,ve,vk,vi,rfl,hss,hse,hsk,hsi⟩:=hres
        obtain ⟨sa,sc,rfl,_,_,_,_⟩:=hss
        obtain ⟨ea,ec,rfl,hec1,hec2,hec3,hee⟩:=_root_.id hse
        obtain ⟨ka,kc,rfl,_,_,_,_⟩:=_root_.id hsk
        obtain ⟨ia,ic,rfl,_,_,_,_⟩:=hsi
        unfold maxLen at hec2
        have m2:Ext w2 (w2.alloc (.cells #[.bool n.leaf,.slice ea n.entries.length ec,.slice ka n.keys.length kc,.slice ia n.kids.length ic] 26)):=(Mods.refl _ w2).alloc _
        have HND:=Lib.hid (findNode_any n key _ _ (.slice ia n.kids.length ic) (hse.ext m2) (hsk.ext m2))
        have HX2:=Lib.hid (Blk.new w2 #[.bool n.leaf,.slice ea n.entries.length ec,.slice ka n.keys.length kc,.slice ia n.kids.length ic] 26)
        have HEE:=Lib.hid hee
        have HM2:=Lib.hid m2
        have HB2:=Lib.hid (HN2.out.blk HB1.out HBP.out)
        obtain ⟨at_,isb,hfn⟩:∃ a b,findN n key=(a,b):=⟨_,_,rfl⟩
        have HFN:=Lib.hid hfn
        rw [hfn] at HND
        have HV2:Hid (lookA G root key=match n.entries[at_]? with | none=>.inl none | some e=>if isb=true then (match valueA G e with | .inl v=>.inl (some v) | .inr (l,k)=>.inr (-1 :: l,k)) else .inl none):=Lib.hid (by rw [HV.out,HFA.out];simp only [hfn])
        have hisb:isb=true→at_ < n.entries.length:=by
          intro hb
          unfold findN at hfn
          split at hfn
          · simp only [Prod.mk.injEq] at hfn
            obtain ⟨h1,h2⟩:=hfn
            rw [h1,hb] at h2
            split at h2
            · rename_i e he;exact (List.getElem?_eq_some_iff.1 he).1
            · cases h2
          · simp only [Prod.mk.injEq] at hfn
            rw [hb] at hfn;cases hfn.2
        have HIS:=Lib.hid hisb
        clear hse hsk m2 hee hfn hisb
        go_wp2_with fail
        refine (HND.out).mono ?_
        rintro e w3 ⟨rfl,hm3⟩
        have HM3:=Lib.hid (HM2.out.trans hm3)
        have HX3:=Lib.hid (HX2.out.ext hm3)
        clear hm3
        cases isb
        · have HVN:Hid (lookA G root key=.inl none):=Lib.hid (by
            rw [HV2.out]
            split
            · rfl
            · rfl)
          go_wp2_with fail
          refine bodyPost_ret (v:=.tuple #[.string ⟨#[]⟩,.bool false,.nilIface]) (by simp [results,Tryz.results58,go_sem]) rfl ?_
          exact ⟨P2,F2,HG2.out.at HM3.out,(HN1.out.trans HN2.out).trans (Nxt.ext HN2.out.env HN2.out.sub HM3.out),by rw [HVN.out];rfl⟩
        · have hat:=HIS.out rfl
          have HAT:=Lib.hid hat
          obtain ⟨eb,eoff,rfl,_,hebF,hc4⟩:=Sl.at HEE.out HM3.out (fun _ _ f=>f.elim) at_ hat
          obtain ⟨en,hen⟩:∃ en,en=n.entries[at_]:=⟨_,rfl⟩
          have HEN:Hid (n.entries[at_]? = some en):=Lib.hid (by rw [hen];exact List.getElem?_eq_getElem hat)
          have hc4:∀ j u,(encE en)[j]? = some u→w3.cell? ⟨eb,eoff+at_ * 4+j,none⟩=some u:=by rw [hen];exact hc4
          have c0:=hc4 0 _ rfl
          simp only [Nat.add_zero] at c0
          have c1:=hc4 1 _ rfl
          have c2:=hc4 2 _ rfl
          have c3:=hc4 3 _ rfl
          have HVE:Hid (lookA G root key=match valueA G en with | .inl v=>.inl (some v) | .inr (l,k)=>.inr (-1 :: l,k)):=Lib.hid (by rw [HV2.out,HEN.out];simp only [if_true])
          have HVO:Hid (valueOk G en):=Lib.hid (HK.out.2 st n en HFA.out (by rw [HFN.out];exact HEN.out))
          have HRG:Hid (-9223372036854775808≤en.chain∧en.chain≤9223372036854775807):=Lib.hid (by
            obtain ⟨k1,k2⟩:=findA_right 16 [] root HFA.out
            have h3:=right_entry k2 k1 HEN.out
            unfold rightE at h3
            simp only [Bool.and_eq_true] at h3
            have h4:=h3.2
            split at h4
            · omega
            · simp only [Bool.and_eq_true,decide_eq_true_eq,kidB] at h4;omega)
          have HNB:=Lib.hid (HN2.out.not HB1.out.lt HBP.out)
          have HNX:Hid (¬ P2 w2.heap.size):=Lib.hid (fun hp=>by have:=HN2.out.stp.bd _ hp;omega)
          have HNE:Hid (¬ P2 eb):=Lib.hid (fun hp=>hebF (HN2.out.sub _ hp))
          have hB3:=HB2.out.ext HM3.out
          have p0:=hB3.cell (o:=0) (v:=.pointer (some ⟨c,0,none⟩)) rfl
          have p1:=hB3.cell (o:=1) (v:=.pointer (some ⟨s,0,none⟩)) rfl
          have p2:=hB3.cell (o:=2) (v:=.int .u64 (gen:Int)) rfl
          have x1:=HX3.out.cell (o:=1) (v:=.slice (some ⟨eb,eoff,none⟩) n.entries.length ec) rfl
          have i0:(0:Int)≤(at_:Int):=by omega
          have i1:(at_:Int) < (n.entries.length:Int):=by omega
          have HVC:=Lib.hid (value_any (HN2.out.env.mods HM3.out.drew.ext) HN2.out.sub (HG2.out.at HM3.out.drew) gen en HRG.out HVO.out)
          unfold pgV at HVC
          clear hen hc4 hB3
          go_wp2_with fail
          go_region_held3 (fun w'=>w'.cell? ⟨w.heap.size,0,none⟩=some (.pointer (some ⟨c,0,none⟩))∧w'.cell? ⟨w.heap.size,1,none⟩=some (.pointer (some ⟨s,0,none⟩))∧w'.cell? ⟨w.heap.size,2,none⟩=some (.int .u64 (gen:Int))∧w'.cell? ⟨w2.heap.size,1,none⟩=some (.slice (some ⟨eb,eoff,none⟩) n.entries.length ec) ∧
              w'.cell? ⟨eb,eoff+at_ * 4,none⟩=some (.string en.key)∧w'.cell? ⟨eb,eoff+at_ * 4+1,none⟩=some (.string en.value)∧w'.cell? ⟨eb,eoff+at_ * 4+2,none⟩=some (.int .i64 en.chain)∧w'.cell? ⟨eb,eoff+at_ * 4+3,none⟩=some (.int .i64 en.size))
            (first | (with_reducible exact ⟨p0,p1,p2,x1,c0,c1,c2,c3⟩) | (with_reducible exact ⟨y0,y1,y2,y3,z0,z1,z2,z3⟩) | go_keep)
            (first
              | (go_at_call 103;(with_reducible refine (HVC.out).mono ?_);rintro e w4 ⟨P4,F4,hG4,hN4,hres⟩;obtain ⟨vs,ev,rfl⟩:=hres.form;have y0:=cellM (w:=w3.drew) hN4.stp.mods p0 HNB.out;have y1:=cellM (w:=w3.drew) hN4.stp.mods p1 HNB.out;have y2:=cellM (w:=w3.drew) hN4.stp.mods p2 HNB.out;have y3:=cellM (w:=w3.drew) hN4.stp.mods x1 HNX.out;have z0:=cellM (w:=w3.drew) hN4.stp.mods c0 HNE.out;have z1:=cellM (w:=w3.drew) hN4.stp.mods c1 HNE.out;have z2:=cellM (w:=w3.drew) hN4.stp.mods c2 HNE.out;have z3:=cellM (w:=w3.drew) hN4.stp.mods c3 HNE.out)
              | fail)
          have HG4:=Lib.hid hG4
          have HN4:=Lib.hid (((HN1.out.trans HN2.out).trans (Nxt.ext HN2.out.env HN2.out.sub HM3.out.drew)).trans hN4)
          clear p0 p1 p2 x1 c0 c1 c2 c3 y0 y1 y2 y3 z0 z1 z2 z3 hG4 hN4
          generalize hva:valueA G en=r at hres
          have HVA:=Lib.hid hva
          clear hva
          rcases r with vv | ⟨el,ek⟩
          · have hre:Ending.returned (.tuple #[.string vs,ev])=.returned (.tuple #[.string vv,.nilIface]):=hres
            injection hre with hre
            simp only [Value.tuple.injEq,Array.mk.injEq,List.cons.injEq,Value.string.injEq,and_true] at hre
            obtain ⟨rfl,rfl⟩:=hre
            clear hres
            have HVF:Hid (lookA G root key=.inl (some vs)):=Lib.hid (by rw [HVE.out,HVA.out])
            go_wp2_with fail
            go_region_held3 (fun _=>True) (trivial)
              (first
                | (go_at_call 75;(with_reducible refine (wrap_nil _ _).mono ?_);rintro e w5 ⟨rfl,rfl⟩)
                | fail)
            all_goals
              go_wp2_with fail
              refine bodyPost_ret (v:=.tuple #[.string vs,.bool true,.nilIface]) (by simp [results,Tryz.results58,go_sem]) rfl ?_
              exact ⟨P4,F4,HG4.out.at (Mods.refl _ w4).drew,HN4.out.trans (Nxt.ext HN4.out.env HN4.out.sub (Mods.refl _ w4).drew),by rw [HVF.out];rfl⟩
          · obtain ⟨f,hre,hE⟩:=hres
            injection hre with hre
            simp only [Value.tuple.injEq,Array.mk.injEq,List.cons.injEq,Value.string.injEq,and_true] at hre
            obtain ⟨rfl,rfl⟩:=hre
            have HE:=Lib.hid hE
            clear hE
            have HVF:Hid (lookA G root key=.inr (-1 :: el,ek)):=Lib.hid (by rw [HVE.out,HVA.out])
            go_wp2_with fail
            go_region_held3 (fun _=>True) (trivial)
              (first
                | (go_at_call 75;(with_reducible refine (wrap_any (HN4.out.env.mods (Mods.refl _ w4).drew) _ _ _ _ (HE.out.mods (Mods.refl _ w4).drew)).mono ?_);rintro e w5 ⟨f5,rfl,hE5,hm5⟩)
                | fail)
            all_goals
              have HE5:=Lib.hid hE5
              have HM5:=Lib.hid (((Mods.refl (fun _=>False) w4).drew).trans hm5)
              clear hE5 hm5
              go_wp2_with fail
              refine bodyPost_ret (v:=.tuple #[.string ⟨#[]⟩,.bool false,faultV f5]) (by simp [results,Tryz.results58,go_sem]) rfl ?_
              exact ⟨P4,F4,HG4.out.at HM5.out,HN4.out.trans (Nxt.ext HN4.out.env HN4.out.sub HM5.out),by rw [HVF.out];exact ⟨f5,rfl,HE5.out⟩⟩
      · obtain ⟨f,rfl,hE⟩:=hres
        have HE:=Lib.hid hE
        clear hE
        have m2:Ext w2 (w2.alloc (.cells #[.bool false,.slice none 0 0,.slice none 0 0,.slice none 0 0] 26)):=(Mods.refl _ w2).alloc _
        have HM2:=Lib.hid m2
        clear m2
        go_wp2_with fail
        refine (wrap_any (HN2.out.env.mods HM2.out.ext) _ _ _ _ (HE.out.mods HM2.out.ext)).mono ?_
        rintro e w3 ⟨f3,rfl,hE3,hm3⟩
        have HE3:=Lib.hid hE3
        have HM3:=Lib.hid (HM2.out.trans hm3)
        clear hE3 hm3
        go_wp2_with fail
        refine bodyPost_ret (v:=.tuple #[.string ⟨#[]⟩,.bool false,faultV f3]) (by simp [results,Tryz.results58,go_sem]) rfl ?_
        exact ⟨P2,F2,HG2.out.at HM3.out,(HN1.out.trans HN2.out).trans (Nxt.ext HN2.out.env HN2.out.sub HM3.out),by rw [HV.out,HFA.out];exact ⟨f3,rfl,HE3.out⟩⟩
end
end Go.Proofs.YtphafjmdhmpkbaaGreatDoor
namespace Go.Proofs.YtphafjmdhmpkbaaGreatDoor
open Go.RowKit
abbrev PgE:=PageA × (Option Addr × Nat × Nat)
section
variable {w w':World} {base:Nat} {pv pv':Value} {xs ys:List PgE}
end
section
variable {P P' F F':Nat→Prop} {ad:Nat→Addr} {w w':World} {c s:Nat} {G G':GA} {l l':List Nat}
end
theorem pgV5 (c s:Nat):pgV c s 5=.agg #[.pointer (some ⟨c,0,none⟩),.pointer (some ⟨s,0,none⟩),.int .u64 5]:=rfl
structure LG (ad:Nat→Addr) (w0 w:World) (B c s gen:Nat) (P F:Nat→Prop) (G:GA) (l:List Nat):Prop where
  pg:PgR F w P c s G l
  nx:Nxt NoB P NoB F ad w0 w
  box:Blk w B #[.pointer (some ⟨c,0,none⟩),.pointer (some ⟨s,0,none⟩),.int .u64 (gen:Int)] 45
  nB:¬ P B
  nF:¬ F B
section
variable {ad:Nat→Addr} {w0 w w':World} {B c s gen:Nat} {P P' F F':Nat→Prop} {G G':GA} {l l':List Nat}
theorem LG.env (h:LG ad w0 w B c s gen P F G l):Env F ad w:=h.nx.env
theorem LG.sub (h:LG ad w0 w B c s gen P F G l):∀ k,P k→F k:=h.nx.sub
theorem LG.step (h:LG ad w0 w B c s gen P F G l) (n:Nxt P P' F F' ad w w') (g:PgR F' w' P' c s G' l'):LG ad w0 w' B c s gen P' F' G' l' :=
  ⟨g,h.nx.trans n,n.blk h.box h.nB,n.not h.box.lt h.nB,fun f=>h.nF (n.oldF B h.box.lt f)⟩
theorem LG.ext0 (h:LG ad w0 w B c s gen P F G l):Ext w0 w:=h.nx.stp.mods
theorem LG.c0 (h:LG ad w0 w B c s gen P F G l):w.cell? ⟨B,0,none⟩=some (.pointer (some ⟨c,0,none⟩)):=h.box.cell rfl
theorem LG.c1 (h:LG ad w0 w B c s gen P F G l):w.cell? ⟨B,1,none⟩=some (.pointer (some ⟨s,0,none⟩)):=h.box.cell rfl
theorem LG.c2 (h:LG ad w0 w B c s gen P F G l):w.cell? ⟨B,2,none⟩=some (.int .u64 (gen:Int)):=h.box.cell rfl
theorem LG.start (g:PgR F w P c s G l) (n:Nxt NoB P NoB F ad w0 w):LG ad w0 (w.alloc (.cells #[.pointer (some ⟨c,0,none⟩),.pointer (some ⟨s,0,none⟩),.int .u64 (gen:Int)] 45)) w.heap.size c s gen P F G l :=
  ⟨g.at ((Mods.refl _ w).alloc _),n.trans (Nxt.ext n.env n.sub ((Mods.refl _ w).alloc _)),Blk.new w _ _,fun f=>by have:=g.bd _ f;omega,fun f=>by have:=n.env.lt _ f;omega⟩
theorem LG.startZ (g:PgR F w P c s G l) (n:Nxt NoB P NoB F ad w0 w) (z:Int) (hz:z=(gen:Int)):LG ad w0 (w.alloc (.cells #[.pointer (some ⟨c,0,none⟩),.pointer (some ⟨s,0,none⟩),.int .u64 z] 45)) w.heap.size c s gen P F G l:=by
  subst hz;exact LG.start g n
def LgDone (ad:Nat→Addr) (w0:World) (B c s gen:Nat) (G:GA) (l:List Nat) (R:(Nat→Prop)→World→Ending→Prop) (e:Ending) (w':World):Prop :=
  ∃ P' F',LG ad w0 w' B c s gen P' F' G l∧R F' w' e
theorem LG.done (h:LG ad w0 w B c s gen P F G l) {R:(Nat→Prop)→World→Ending→Prop} {e:Ending} (hd:PgDone F P ad w c s G' l' R e w'):LgDone ad w0 B c s gen G' l' R e w':=by
  obtain ⟨P',F',g,n,r⟩:=hd
  exact ⟨P',F',h.step n g,r⟩
end
end Go.Proofs.YtphafjmdhmpkbaaGreatDoor
namespace Go.Proofs.YtphafjmdhmpkbaaGreatDoor
open Go.RowKit
attribute [local go_sem ↓] Go.wp_at_zero Go.wp_at_succ
theorem low_new (n:Nat) (h:8≤n):LowL (spNew n):=by
  rw [spK_zero n (by omega)]
  exact ⟨by rw [spK_get n 0 0 (by omega)];rfl,by rw [spK_get n 0 1 (by omega)];rfl⟩
theorem free_new (n:Nat) (h:8≤n):spFree (spNew n)=some 2:=by
  rw [spK_zero n (by omega),spK_free n 0 (by omega),if_pos (by omega)]
theorem len_new (n:Nat) (h:8≤n):(spNew n).length=n:=by
  rw [spK_zero n (by omega),spK_len n 0 (by omega)]
theorem down_total {G:GA} (h:G.total) (l:List Nat) (gen:Nat) (n:NodeA):(downG G l gen 0 n).total:=by
  unfold downG
  split
  · exact h
  · unfold placeG
    rw [if_pos (.inl rfl)]
    exact put_total h _
theorem down_node {G:GA} {l:List Nat} {gen i:Nat} {n:NodeA} (hd:downI G l 0 n=some i) (hi:i < G.blocks):(downG G l gen 0 n).node i=some n:=by
  have hr:=(downI_ok hd).1
  have hv:(downG G l gen 0 n).view i=some (.inl ⟨kindA n,(i:Int),gen,bytesN n⟩):=by
    unfold downG
    rw [hd]
    simp only
    rw [put_view,if_pos (by simp)]
  unfold GA.node
  rw [(downG_lim G l gen 0 n).2.1,if_pos hi,hv]
  simp only
  have hdec:decodeA ⟨kindA n,(i:Int),gen,bytesN n⟩=.inl n:=by
    unfold decodeA kindA
    cases hl:n.leaf with
    | true =>
      have:=(getN_iff true (bytesN n) n).2 ⟨hr,hl,rfl⟩
      simp [this]
    | false =>
      have:=(getN_iff false (bytesN n) n).2 ⟨hr,hl,rfl⟩
      simp [this]
  rw [hdec]
theorem down0_some {G:GA} {l:List Nat} {i:Nat} {key v:ByteArray} (hk:keyB key=true) (hv:v.size≤24) (hs:256≤G.size) (hi:spFree l=some i):downI G l 0 (leaf1 key v)=some i:=by
  have h1:=leaf1_wt hk hv
  unfold downI
  rw [if_pos ⟨leaf1_right hk hv,by omega⟩]
  unfold placeI
  rw [if_neg (by simp)]
  exact hi
theorem tree_one {n gen:Nat} (h8:8≤n) (h256:n≤256) {key v:ByteArray} (hk:keyB key=true) (hv:v.size≤24):TreeG (downG (G0 n) (spNew n) gen 0 (leaf1 key v)) 2 1 [(key,v)]:=by
  have hd:=down0_some (G:=G0 n) hk hv (Nat.le_refl 256) (free_new n h8)
  refine .inr ⟨by omega,by omega,by omega,.leaf (n:=leaf1 key v) (down_node hd (by show 2 < n;omega)) rfl (leaf1_right hk hv) rfl (fun i e x he hx=>?_) (fun x _=>inB_all _)⟩
  match i,he,hx with
  | 0,he,hx =>
    simp [leaf1] at he hx
    subst he hx
    exact ⟨rfl,rfl⟩
  | i+1,he,_=>simp [leaf1] at he
set_option maxRecDepth 100000 in
set_option maxHeartbeats 2000000 in
theorem awake13_any {ad:Nat→Addr} {w:World} (hL:Env NoB ad w) : Calls Tryz.prog 12 #[] w fun e w'=>e=.returned (.bool true)∧Ext w w':=by
  have HL:=Lib.hid hL
  clear hL
  go_enter Tryz.func12, Tryz.ntmps12
  go_wp2_with fail
  refine (pager13_any HL.out 16 (by omega) (by omega)).mono ?_
  rintro e w1 ⟨c,s,P,F,rfl,hG,hN⟩
  have hS:=LG.startZ (gen:=5) hG hN 5 rfl
  have t0:=hS.c0
  have t1:=hS.c1
  have t2:_=some (Value.int .u64 5):=hS.c2
  have HPU:=Lib.hid (put0_any hS.env hS.sub hS.pg 5 (by omega) ⟨#[97]⟩ ⟨#[120]⟩ (by decide) (by decide) (low_new 16 (by omega)) (by rw [len_new 16 (by omega)];exact Nat.le_refl 16) (by show 0+10≤1000000;omega) 2 (free_new 16 (by omega)))
  have HS:=Lib.hid hS
  rw [pgV5] at HPU ⊢
  clear hG hN hS
  go_wp2_with fail
  refine HPU.out.mono ?_
  rintro e w2 ⟨P2,F2,hG2,hN2,rfl⟩
  have hS2:=HS.out.step hN2 hG2
  have t0:=hS2.c0
  have t1:=hS2.c1
  have t2:_=some (Value.int .u64 5):=hS2.c2
  have HT:=tree_one (n:=16) (gen:=5) (by omega) (by omega) (key:=⟨#[97]⟩) (v:=⟨#[120]⟩) (by decide) (by decide)
  have HLK:Hid (lookA (downG (G0 16) (spNew 16) 5 0 (leaf1 ⟨#[97]⟩ ⟨#[120]⟩)) ((2:Nat):Int) ⟨#[97]⟩=.inl (some ⟨#[120]⟩)):=Lib.hid (by rw [HT.look (by decide)];rfl)
  have HGT:=Lib.hid (look_any hS2.env hS2.sub hS2.pg 5 ((2:Nat):Int) ⟨#[97]⟩ ((down_total (G0_total 16) _ _ _).look _ _))
  have HS2:=Lib.hid hS2
  rw [pgV5] at HGT
  clear hG2 hN2 hS2 HT
  go_wp2_with fail
  refine HGT.out.mono ?_
  rintro e w3 hd
  rw [HLK.out] at hd
  obtain ⟨P3,F3,hS3,rfl⟩:=HS2.out.done hd
  have HX:=Lib.hid hS3.ext0
  clear hd hS3 t0 t1 t2
  go_wp2_with fail
  go_ret
  exact ⟨rfl,HX.out⟩
end Go.Proofs.YtphafjmdhmpkbaaGreatDoor
namespace Go.Proofs.YtphafjmdhmpkbaaGreatDoor
open Go.RowKit
theorem rightN_keys13 {n:NodeA} (h:rightN n=true) (hl:n.leaf=false):∀ s ∈ n.keys,keyB s=true:=by
  unfold rightN at h
  rw [if_neg (by rw [hl];simp)] at h
  simp only [Bool.and_eq_true,List.all_eq_true] at h
  exact h.1.2
theorem few_bytes13 {n:NodeA} (h1:n.entries.length≤60) (h2:n.kids.length≤60) (hr:rightN n=true):(bytesN n).length≤100000:=by
  have hw:=weight_len (form_right hr)
  have e:∀ (es:List EntryA),(∀ x ∈ es,rightE x=true)→sumE es≤100 * es.length:=fun es=>by
    induction es with
    | nil=>intro _;simp [sumE]
    | cons x es ih =>
      intro h
      have h3:=ih (fun y hy=>h y (List.mem_cons_of_mem _ hy))
      have h4:=h x List.mem_cons_self
      unfold rightE at h4
      simp only [Bool.and_eq_true] at h4
      have h5:=(keyB_iff x.key).1 h4.1
      have:weightE x≤100:=by
        unfold weightE
        split
        · rename_i hz
          rw [if_pos hz] at h4
          simp only [Bool.and_eq_true,decide_eq_true_eq] at h4
          omega
        · omega
      simp only [sumE,List.length_cons]
      omega
  have k:∀ (ks:List ByteArray),(∀ x ∈ ks,keyB x=true)→sumK ks≤100 * ks.length:=fun ks=>by
    induction ks with
    | nil=>intro _;simp [sumK]
    | cons x ks ih =>
      intro h
      have h3:=ih (fun y hy=>h y (List.mem_cons_of_mem _ hy))
      have h5:=(keyB_iff x).1 (h x List.mem_cons_self)
      simp only [sumK,List.length_cons]
      omega
  unfold weightN at hw
  cases hl:n.leaf with
  | true =>
    have hf:=form_right hr
    unfold formN at hf
    rw [if_pos hl] at hf
    have:=e n.entries (fun x hx=>by
      obtain ⟨i,hi,hxe⟩:=List.getElem_of_mem hx
      exact right_entry hl hr (k:=i) (by rw [← hxe];exact List.getElem?_eq_getElem hi))
    rw [hl,hf.1] at hw
    simp only [sumK,if_true] at hw
    omega
  | false =>
    have hf:=form_right hr
    unfold formN at hf
    rw [if_neg (by rw [hl];simp)] at hf
    have:=k n.keys (rightN_keys13 hr hl)
    rw [hl,hf.1] at hw
    simp only [sumE,Bool.false_eq_true,if_false] at hw
    omega
end Go.Proofs.YtphafjmdhmpkbaaGreatDoor
