/- lookup.find, walked. | lookup.Path, Value, Get. | lookup.Get. | What stands while lookup.Walk walks; walker.see; corrupt. -/
import Derived.Test.YtphafjmdhmpkbaaGreatDoorK27
import Derived.Test.YtphafjmdhmpkbaaGreatDoorK19
import Derived.Test.YtphafjmdhmpkbaaGreatDoorK24
import Derived.Test.YtphafjmdhmpkbaaGreatDoorK20
import Derived.Maps.OwnOps
import Derived.Maps.Views
namespace Go.Proofs.YtphafjmdhmpkbaaGreatDoor
open Go.RowKit
attribute [local go_sem ↓] Go.wp_at_zero Go.wp_at_succ
section
variable {P P' P1 P2 F F' F1 F2 Q:Nat→Prop} {ad:Nat→Addr} {w w' wr w2:World} {c s:Nat} {G:GA} {l:List Nat} {v v':Value} {gen:Nat}
set_option maxRecDepth 100000 in
set_option maxHeartbeats 4000000 in
theorem find_any (hL:Env F ad w) (hP:∀ k,P k→F k) (h:PgR F w P c s G l) (gen:Nat) (root:Int) (key:ByteArray) (hk:findOk G key 16 root) :
    Calls Tryz.prog 101 #[pgV c s gen,.int .i64 root,.string key] w (PgDone F P ad w c s G l (fun F' w' e=>FindRes F' ad w' (findA G key 16 [] root) e)):=by
  have m0:Ext w ((w.alloc (.cells #[.pointer (some ⟨c,0,none⟩),.pointer (some ⟨s,0,none⟩),.int .u64 (gen:Int)] 45)).alloc (.cells #[.bool false,.slice none 0 0,.slice none 0 0,.slice none 0 0] 26)):=((Mods.refl _ w).alloc _).alloc _
  have HF0:Hid (FiS F P ad w c s gen G l (fun k=>F k∨k=w.heap.size+1) P ((w.alloc (.cells #[.pointer (some ⟨c,0,none⟩),.pointer (some ⟨s,0,none⟩),.int .u64 (gen:Int)] 45)).alloc (.cells #[.bool false,.slice none 0 0,.slice none 0 0,.slice none 0 0] 26)) (.slice none 0 0) []):=Lib.hid
    ⟨h.plusNew hP m0 (fun k hk=>by omega),Nxt.new hL hP m0 (fun k hk=>by omega) (fun k hk=>by simp;omega),LocR.nil _ _ _ _ _ _ _,(Blk.new w _ _).alloc _,fun hp=>by have:=h.bd _ hp;omega,heap_at (by simp),fun hp=>by have:=h.bd _ hp;omega,.inr rfl⟩
  have HK:=Lib.hid hk
  have HFL:=Lib.hid hL.lt
  clear hL hP h hk m0
  have HLD:=fun (F1 P1:Nat→Prop) (wr:World) (h1:Env F1 ad wr) (h2:∀ k,P1 k→F1 k) (h3:PgR F1 wr P1 c s G l) (id:Int) (h4:G.knows id)=>load_any h1 h2 h3 gen id h4
  unfold pgV at HLD ⊢
  have HLD:=Lib.hid HLD
  go_enter Tryz.func101, Tryz.ntmps101
  go_wp2_with fail
  go_loopg [9,10] 16 (fun m v9 v10 wr=>∃ (F1 P1:Nat→Prop) (st:List (Int × Nat)) (id:Int),st.length+m=16∧v10=.int .i64 id∧Hid (FiS F P ad w c s gen G l F1 P1 wr v9 st∧findA G key m st id=findA G key 16 [] root∧findOk G key m id))
  case atStart=>exact ⟨_,P,[],root,rfl,rfl,Lib.hid ⟨HF0.out,rfl,HK.out⟩⟩
  case round =>
    obtain ⟨F1,P1,st,id,hm,rfl,HW⟩:=hrel
    obtain ⟨va,vc,rfl,hv1,hv2⟩:=HW.out.1.row.1.form
    unfold maxLen at hv2
    have hbb:=HW.out.1.box.lt
    have hrr:=HW.out.1.res.lt
    by_cases hlt:0 < gk
    · obtain ⟨m,rfl⟩:∃ m,gk=m+1:=⟨gk - 1,by omega⟩
      have hb0:=HW.out.1.box.cell (o:=0) (v:=.pointer (some ⟨c,0,none⟩)) rfl
      have hb1:=HW.out.1.box.cell (o:=1) (v:=.pointer (some ⟨s,0,none⟩)) rfl
      have hb2:=HW.out.1.box.cell (o:=2) (v:=.int .u64 (gen:Int)) rfl
      have hlen:(st.length:Int) < 16:=by omega
      go_wp2_with fail
      refine (HLD.out F1 P1 _ HW.out.1.nx.env HW.out.1.nx.sub HW.out.1.pg id HW.out.2.2.1).mono ?_
      rintro e w2 ⟨P2,F2,hG2,hN2,hres⟩
      have HW2:=Lib.hid (HW.out.1.nxt hN2 hG2)
      have HM2:=Lib.hid (hN2.subP HW.out.1.nx.sub)
      clear hG2 hN2 hb0 hb1 hb2
      generalize hld:G.load id=r at hres
      rcases r with n | ⟨el,ek⟩
      · obtain ⟨ve,vk,vi,rfl,hse,hsk,hsi⟩:=hres
        have hrn:=GA.load_right hld
        obtain ⟨ea,ec,rfl,_,_,_,_⟩:=_root_.id hse
        obtain ⟨ka,kc,rfl,_,_,_,_⟩:=_root_.id hsk
        obtain ⟨ia,ic,rfl,_,hic,_,hii⟩:=_root_.id hsi
        unfold maxLen at hic
        obtain ⟨at_,isb,hfn⟩:∃ a b,findN n key=(a,b):=⟨_,_,rfl⟩
        have HLD2:=Lib.hid hld
        have HFN:=Lib.hid hfn
        have HRN:=Lib.hid hrn
        have HII:=Lib.hid hii
        have m2:Ext w2 (w2.alloc (.cells #[.bool n.leaf,.slice ea n.entries.length ec,.slice ka n.keys.length kc,.slice ia n.kids.length ic] 26)):=(Mods.refl _ w2).alloc _
        have HFD:=Lib.hid (findNode_any n key _ _ (.slice ia n.kids.length ic) (hse.ext m2) (hsk.ext m2))
        have HX2:=Lib.hid (Blk.new w2 #[.bool n.leaf,.slice ea n.entries.length ec,.slice ka n.keys.length kc,.slice ia n.kids.length ic] 26)
        have HSE:=Lib.hid hse
        have HSK:=Lib.hid hsk
        have HSI:=Lib.hid hsi
        have HM2':=Lib.hid m2
        clear hld hfn hrn hii hse hsk hsi m2
        go_wp2_with fail
        refine (HFD.out).mono ?_
        rintro e w3 ⟨rfl,hm3⟩
        rw [HFN.out]
        have HW3:=Lib.hid (HW2.out.ext (HM2'.out.trans hm3))
        have HX3:=Lib.hid (HX2.out.ext hm3)
        have HM3:=Lib.hid (HM2'.out.trans hm3)
        have hb3:=HW3.out.box.lt
        clear hm3
        cases hlf:n.leaf
        · have HLF:=Lib.hid hlf
          have hlt2:at_ < n.kids.length:=by have:=findN_lt HRN.out hlf key;rw [HFN.out] at this;exact this
          have HLT2:=Lib.hid hlt2
          rw [hlf] at HX3
          clear hlf
          obtain ⟨kb,koff,rfl,_,_,_⟩:=Sl.at HII.out (Mods.refl F2 w2) (fun k _ h=>h) at_ hlt2
          obtain ⟨kid,hkid⟩:∃ kid,kid=n.kids[at_]:=⟨_,rfl⟩
          have HKID:=Lib.hid hkid
          clear hkid
          go_wp2_with (at_builtin;refine wpl_app2 Tryz.elSt encSt_ok rfl _ _ rfl w.heap.size _ _ st [(id,at_)] rfl rfl (HW3.out.row.1.ext ((Mods.refl _ _).alloc _)) (Sl.one (F:=fun _=>False) (heap_at (by simp)) (fun f=>f)) (by simp only [List.length_cons,List.length_nil];omega) (by simp;omega) (fun f=>f) ?_;simp only [List.length_cons,List.length_nil,Nat.zero_add];intro a4 c4 w4 hO4 hm4 hat4;have hX4:=(HX3.out.alloc (.cells #[.int .i64 id,.int .i64 (at_:Int)] 237)).mods hm4 (fun e=>Own.notB HW3.out.row.1 HX3.out (by decide) _ e rfl);have x0:=hX4.cell (o:=0) (v:=.bool false) rfl;have x3:=hX4.cell (o:=3) (v:=.slice (some ⟨kb,koff,none⟩) n.kids.length ic) rfl;have hM4:Mods F2 w2 w4:=((HM3.out.alloc _).ext).trans (hm4.mono (fun k hk=>(HW3.out.row.2 k hk).1));have d0:w4.cell? ⟨kb,koff+at_,none⟩=some (.int .i64 kid):=kid_cell HII.out hM4 HLT2.out HKID.out)
          have HW4:=Lib.hid ((HW3.out.ext ((Mods.refl _ w3).alloc (.cells #[.int .i64 id,.int .i64 (at_:Int)] 237))).app hO4 hm4 hat4)
          have HX4:=Lib.hid hX4
          have HM4:Hid (Mods F2 w2 w4):=Lib.hid (((HM3.out.alloc _).ext).trans (hm4.mono (fun k hk=>(HW3.out.row.2 k hk).1)))
          have HO4:=Lib.hid hO4
          clear hX4 hO4 hm4 hat4 hM4 d0 x0 x3
          have HFA:Hid (findA G key m (st ++ [(id,at_)]) kid=findA G key 16 [] root):=Lib.hid (by
            have h1:=HW.out.2.1
            rw [findA,HLD2.out] at h1
            simp only [HLF.out,Bool.false_eq_true,if_false,HFN.out] at h1
            rw [kids_at (List.getElem?_eq_getElem HLT2.out)] at h1
            rw [HKID.out]
            exact h1)
          have HOK:Hid (findOk G key m kid):=Lib.hid (by
            have h1:=HW.out.2.2.2 n HLD2.out HLF.out
            rw [HFN.out] at h1
            simp only [kids_at (List.getElem?_eq_getElem HLT2.out)] at h1
            rw [HKID.out];exact h1)
          go_wp2_with fail
          go_roundg m
          case measure=>omega
          case rel=>exact ⟨_,P2,st ++ [(id,at_)],kid,by rw [List.length_append,List.length_cons,List.length_nil];omega,rfl,Lib.hid ⟨HW4.out,HFA.out,HOK.out⟩⟩
        · have HLF:=Lib.hid hlf
          rw [hlf] at HX3
          clear hlf
          go_wp2_with (at_builtin;refine wpl_app2 Tryz.elSt encSt_ok rfl _ _ rfl w.heap.size _ _ st [(id,at_)] rfl rfl (HW3.out.row.1.ext ((Mods.refl _ _).alloc _)) (Sl.one (F:=fun _=>False) (heap_at (by simp)) (fun f=>f)) (by simp only [List.length_cons,List.length_nil];omega) (by simp;omega) (fun f=>f) ?_;simp only [List.length_cons,List.length_nil,Nat.zero_add];intro a4 c4 w4 hO4 hm4 hat4;have hX4:=(HX3.out.alloc (.cells #[.int .i64 id,.int .i64 (at_:Int)] 237)).mods hm4 (fun e=>Own.notB HW3.out.row.1 HX3.out (by decide) _ e rfl);have x0:=hX4.cell (o:=0) (v:=.bool true) rfl;have x1:=hX4.cell (o:=1) (v:=.slice ea n.entries.length ec) rfl;have x2:=hX4.cell (o:=2) (v:=.slice ka n.keys.length kc) rfl;have x3:=hX4.cell (o:=3) (v:=.slice ia n.kids.length ic) rfl;have hR:=(HW3.out.res.alloc (.cells #[.int .i64 id,.int .i64 (at_:Int)] 237)).mods hm4 (fun e=>Own.notB HW3.out.row.1 HW3.out.res (by decide) _ e rfl);have r0:=hR.cell (o:=0) (v:=.bool false) rfl;have r1:=hR.cell (o:=1) (v:=.slice none 0 0) rfl;have r2:=hR.cell (o:=2) (v:=.slice none 0 0) rfl;have r3:=hR.cell (o:=3) (v:=.slice none 0 0) rfl;have rf:=hR.frozen)
          have HW4:=Lib.hid ((HW3.out.ext ((Mods.refl _ w3).alloc (.cells #[.int .i64 id,.int .i64 (at_:Int)] 237))).app hO4 hm4 hat4)
          have HX4:=Lib.hid hX4
          have HM4:Hid (Mods F2 w2 w4):=Lib.hid (((HM3.out.alloc _).ext).trans (hm4.mono (fun k hk=>(HW3.out.row.2 k hk).1)))
          have HO4:=Lib.hid hO4
          have hne:w2.heap.size ≠ w.heap.size+1:=by have:=HW2.out.res.lt;omega
          have hne2:w.heap.size+1 ≠ w2.heap.size:=fun e=>hne e.symm
          clear hX4 hO4 hm4 hat4 hR
          go_wp2_with fail
          go_region_held3 (fun w'=>w'.cell? ⟨w2.heap.size,0,none⟩=some (.bool true)∧w'.cell? ⟨w2.heap.size,1,none⟩=some (.slice ea n.entries.length ec)∧w'.cell? ⟨w2.heap.size,2,none⟩=some (.slice ka n.keys.length kc)∧w'.cell? ⟨w2.heap.size,3,none⟩=some (.slice ia n.kids.length ic))
            (first | (with_reducible exact ⟨x0,x1,x2,x3⟩) | go_keep)
            (fail)
          have HFA:Hid (findA G key 16 [] root=.inl (st ++ [(id,at_)],n)):=Lib.hid (by
            rw [← HW.out.2.1,findA,HLD2.out]
            simp only [HLF.out,if_true,HFN.out])
          have HRB:=Lib.hid ((HW4.out.res.set4 (.bool true) (.slice ea n.entries.length ec) (.slice ka n.keys.length kc) (.slice ia n.kids.length ic)).drew)
          have HMR:=Lib.hid ((Mods.set4 (F:=fun k=>k=w.heap.size+1) (Mods.refl _ w4) (R:=w.heap.size+1) (.inr rfl) (.bool true) (.slice ea n.entries.length ec) (.slice ka n.keys.length kc) (.slice ia n.kids.length ic)).drew)
          clear x0 x1 x2 x3 r0 r1 r2 r3 rf hne hne2
          go_wp2_with fail
          refine bodyPost_ret (results_tmp_row_tmp rfl _ _ (w.heap.size+1) 26 #[.bool true,.slice ea n.entries.length ec,.slice ka n.keys.length kc,.slice ia n.kids.length ic] _ rfl HRB.out Tryz.underlying26 rfl Tryz.nodeSize) rfl ?_
          have HM5:=HM4.out.trans (HMR.out.mono (G:=F2) (fun k hk=>hk ▸ HW2.out.resF))
          have hn5:=HW4.out.nx.resD HMR.out (R:=w.heap.size+1) (by omega) HW4.out.resF
          have hq:∀ k,(F k∨P2 k)→F2 k:=fun k hk=>hk.elim (HW2.out.nx.grow k) (HW2.out.nx.sub k)
          refine ⟨P2,fun k=>F k∨P2 k,(HW4.out.pg.res HMR.out HW4.out.resP HW4.out.resF).anti (fun k hk=>.inl (hq k hk)),hn5.least,?_⟩
          rw [HFA.out]
          refine ⟨_,_,_,_,by rw [HLF.out];rfl,?_,(HSE.out.mods HM5).anti' hq,(HSK.out.mods HM5).anti' hq,(HSI.out.mods HM5).anti' hq⟩
          have ho:=HW4.out.row.1.mods HMR.out (fun g hg e=>Own.notB HW4.out.row.1 HW4.out.res (by decide) g hg e)
          have hs:Sl (fun k=>F k∨P2 k) _ 2 encSt _ (st ++ [(id,at_)]):=Own.sl (F:=fun k=>F k∨P2 k) ⟨ho.1,fun g hg hf=>hf.elim (fun hf=>by have h1:=(HW4.out.row.1.lt g hg).1;have h2:=HFL.out g hf;omega) (fun hp=>(HW4.out.row.2 g hg).2 hp)⟩ encSt_ok.len (by simp;omega)
          simpa using hs
      · obtain ⟨f,rfl,hE⟩:=hres
        have HE:=Lib.hid hE
        have HFA:Hid (findA G key 16 [] root=.inr (el,ek)):=Lib.hid (by rw [← HW.out.2.1,findA,hld])
        clear hld hE
        have hR:=HW2.out.res.alloc (.cells #[.bool false,.slice none 0 0,.slice none 0 0,.slice none 0 0] 26)
        have r0:=hR.cell (o:=0) (v:=.bool false) rfl
        have r1:=hR.cell (o:=1) (v:=.slice none 0 0) rfl
        have r2:=hR.cell (o:=2) (v:=.slice none 0 0) rfl
        have r3:=hR.cell (o:=3) (v:=.slice none 0 0) rfl
        have rf:=hR.frozen
        have HRB:=Lib.hid (hR.set4 (.bool false) (.slice none 0 0) (.slice none 0 0) (.slice none 0 0))
        have HMR:=Lib.hid (Mods.set4 (F:=fun k=>k=w.heap.size+1) (Mods.refl _ (w2.alloc (.cells #[.bool false,.slice none 0 0,.slice none 0 0,.slice none 0 0] 26))) (R:=w.heap.size+1) (.inr rfl) (.bool false) (.slice none 0 0) (.slice none 0 0) (.slice none 0 0))
        clear hR
        go_wp2_with fail
        refine bodyPost_ret (results_tmp_row_tmp rfl _ _ (w.heap.size+1) 26 #[.bool false,.slice none 0 0,.slice none 0 0,.slice none 0 0] _ rfl HRB.out Tryz.underlying26 rfl Tryz.nodeSize) rfl ?_
        refine ⟨P2,F2,((HW2.out.pg.at ((Mods.refl _ w2).alloc _))).res HMR.out HW2.out.resP HW2.out.resF,(HW2.out.nx.trans (Nxt.ext HW2.out.nx.env HW2.out.nx.sub ((Mods.refl _ w2).alloc _))).resD HMR.out (by omega) HW2.out.resF,?_⟩
        rw [HFA.out]
        exact ⟨f,rfl,(HE.out.mods ((Mods.refl _ w2).alloc _)).mods (HMR.out.mono (fun k hk=>hk ▸ HW2.out.resF))⟩
    · obtain rfl:gk=0:=by omega
      have hlen:st.length=16:=by omega
      have g5:=HW.out.1.nx.env.c5
      have HFA:Hid (findA G key 16 [] root=.inr ([pgOf id],5)):=Lib.hid (by rw [← HW.out.2.1];rfl)
      rw [hlen] at HW hv1 ⊢
      have HL16:=Lib.hid hlen
      clear hlen
      go_wp2_with fail
      refine (at_any HW.out.1.nx.env _ id _ [] 5 (.sent 5 (by decide) (by decide))).mono ?_
      rintro e w2 ⟨f,rfl,hE,hm2⟩
      have HE:=Lib.hid hE
      have HW2:=Lib.hid (HW.out.1.ext hm2)
      have hR:=HW2.out.res
      have r0:=hR.cell (o:=0) (v:=.bool false) rfl
      have r1:=hR.cell (o:=1) (v:=.slice none 0 0) rfl
      have r2:=hR.cell (o:=2) (v:=.slice none 0 0) rfl
      have r3:=hR.cell (o:=3) (v:=.slice none 0 0) rfl
      have rf:=hR.frozen
      have HRB:=Lib.hid (hR.set4 (.bool false) (.slice none 0 0) (.slice none 0 0) (.slice none 0 0))
      have HMR:=Lib.hid (Mods.set4 (F:=fun k=>k=w.heap.size+1) (Mods.refl _ w2) (R:=w.heap.size+1) (.inr rfl) (.bool false) (.slice none 0 0) (.slice none 0 0) (.slice none 0 0))
      clear hR hE hm2
      go_wp2_with fail
      refine bodyPost_ret (results_tmp_row_tmp rfl _ _ (w.heap.size+1) 26 #[.bool false,.slice none 0 0,.slice none 0 0,.slice none 0 0] _ rfl HRB.out Tryz.underlying26 rfl Tryz.nodeSize) rfl ?_
      refine ⟨P1,F1,HW2.out.pg.res HMR.out HW2.out.resP HW2.out.resF,HW2.out.nx.resD HMR.out (by omega) HW2.out.resF,?_⟩
      rw [HFA.out]
      exact ⟨f,rfl,HE.out.mods (HMR.out.mono (fun k hk=>hk ▸ HW2.out.resF))⟩
end
def ValRes (F:Nat→Prop) (ad:Nat→Addr) (w':World) (r:ByteArray ⊕ Err) (e:Ending):Prop :=
  match r with
  | .inl v=>e=.returned (.tuple #[.string v,.nilIface])
  | .inr (l,k)=>∃ f,e=.returned (.tuple #[.string ⟨#[]⟩,faultV f])∧ErrC F ad w' (faultV f) l k
def LookRes (F:Nat→Prop) (ad:Nat→Addr) (w':World) (r:Option ByteArray ⊕ Err) (e:Ending):Prop :=
  match r with
  | .inl (some v)=>e=.returned (.tuple #[.string v,.bool true,.nilIface])
  | .inl none=>e=.returned (.tuple #[.string ⟨#[]⟩,.bool false,.nilIface])
  | .inr (l,k)=>∃ f,e=.returned (.tuple #[.string ⟨#[]⟩,.bool false,faultV f])∧ErrC F ad w' (faultV f) l k
section
variable {P P' P1 P2 F F' F1 F2 Q:Nat→Prop} {ad:Nat→Addr} {w w' wr w2:World} {c s:Nat} {G:GA} {l:List Nat} {v v':Value} {gen:Nat}
set_option maxRecDepth 100000 in
theorem value_any (hL:Env F ad w) (hP:∀ k,P k→F k) (h:PgR F w P c s G l) (gen:Nat) (e:EntryA) (hid : -9223372036854775808≤e.chain∧e.chain≤9223372036854775807) (hok:valueOk G e) :
    Calls Tryz.prog 103 #[pgV c s gen,.agg #[.string e.key,.string e.value,.int .i64 e.chain,.int .i64 e.size]] w (PgDone F P ad w c s G l (fun F' w' ed=>ValRes F' ad w' (valueA G e) ed)):=by
  obtain ⟨key,value,chain,size⟩:=e
  simp only at hid
  have m0:Ext w ((w.alloc (.cells #[.pointer (some ⟨c,0,none⟩),.pointer (some ⟨s,0,none⟩),.int .u64 (gen:Int)] 45)).alloc (.cells #[.string key,.string value,.int .i64 chain,.int .i64 size] 107)):=((Mods.refl _ w).alloc _).alloc _
  have HN0:=Lib.hid (Nxt.ext hL hP m0)
  have HG0:=Lib.hid (h.at m0)
  have HOK:=Lib.hid hok
  by_cases hz:chain=0
  · have hzb:(chain == 0)=true:=beq_iff_eq.2 hz
    have HV:Hid (valueA G ⟨key,value,chain,size⟩=.inl value):=Lib.hid (by unfold valueA;rw [if_pos hz])
    clear hL hP h m0 hok hz
    unfold pgV
    go_enter Tryz.func103, Tryz.ntmps103
    go_wp2_with fail
    go_ret2
    exact ⟨P,F,HG0.out,HN0.out,by rw [HV.out];rfl⟩
  · have hzb:(chain == 0)=false:=beq_eq_false_iff_ne.2 hz
    have HRD:=Lib.hid (chRead_any HN0.out.env HN0.out.sub HG0.out gen chain size hid (hok hz))
    have HV:Hid (valueA G ⟨key,value,chain,size⟩=match chErr G chain size with | none=>.inl ⟨((walkA G size.toNat chain size).1.flatMap (·.2)).toArray⟩ | some (l,k)=>.inr (-1 :: l,k)):=Lib.hid (by unfold valueA;rw [if_neg hz];rfl)
    clear hL hP h m0 hok hz
    unfold pgV at HRD ⊢
    go_enter Tryz.func103, Tryz.ntmps103
    go_wp2_with fail
    refine (HRD.out).mono ?_
    rintro e w2 ⟨P2,F2,hG2,hN2,⟨hc,rfl⟩ | ⟨⟨el,ek⟩,f,hc,rfl,hE⟩⟩
    · have HG2:=Lib.hid hG2
      have HN2:=Lib.hid hN2
      have HC:=Lib.hid hc
      clear hG2 hN2 hc
      go_wp2_with fail
      refine (wrap_nil _ _).mono ?_
      rintro e w3 ⟨rfl,rfl⟩
      go_wp2_with fail
      go_ret2
      exact ⟨P2,F2,HG2.out,HN0.out.trans HN2.out,by rw [HV.out,HC.out];rfl⟩
    · have HG2:=Lib.hid hG2
      have HN2:=Lib.hid hN2
      have HC:=Lib.hid hc
      have HE:=Lib.hid hE
      clear hG2 hN2 hc hE
      go_wp2_with fail
      refine (wrap_any HN2.out.env _ _ _ _ HE.out).mono ?_
      rintro e w3 ⟨f3,rfl,hE3,hm3⟩
      have HE3:=Lib.hid hE3
      have HM3:=Lib.hid hm3
      clear hE3 hm3
      go_wp2_with fail
      go_ret2
      exact ⟨P2,F2,HG2.out.at HM3.out,(HN0.out.trans HN2.out).trans (Nxt.ext HN2.out.env HN2.out.sub HM3.out),by rw [HV.out,HC.out];exact ⟨f3,rfl,HE3.out⟩⟩
end
theorem ValRes.form {F:Nat→Prop} {ad:Nat→Addr} {w:World} {r:ByteArray ⊕ Err} {e:Ending} (h:ValRes F ad w r e):∃ v ev,e=.returned (.tuple #[.string v,ev]):=by
  rcases r with v | ⟨l,k⟩
  · exact ⟨v,_,h⟩
  · obtain ⟨f,h,_⟩:=h;exact ⟨_,_,h⟩
section
variable {P P' P1 P2 F F' F1 F2 Q:Nat→Prop} {ad:Nat→Addr} {w w' wr w2:World} {c s:Nat} {G:GA} {l:List Nat} {v v':Value} {gen:Nat}
set_option maxRecDepth 100000 in
set_option maxHeartbeats 1000000 in
theorem look_any (hL:Env F ad w) (hP:∀ k,P k→F k) (h:PgR F w P c s G l) (gen:Nat) (root:Int) (key:ByteArray) (hk:lookOk G root key) :
    Calls Tryz.prog 58 #[pgV c s gen,.int .i64 root,.string key] w (PgDone F P ad w c s G l (fun F' w' e=>LookRes F' ad w' (lookA G root key) e)):=by
  have m0:Ext w (w.alloc (.cells #[.pointer (some ⟨c,0,none⟩),.pointer (some ⟨s,0,none⟩),.int .u64 (gen:Int)] 45)):=(Mods.refl _ w).alloc _
  have HN0:=Lib.hid (Nxt.ext hL hP m0)
  have HG0:=Lib.hid (h.at m0)
  have HB0:=Lib.hid (Blk.new w #[.pointer (some ⟨c,0,none⟩),.pointer (some ⟨s,0,none⟩),.int .u64 (gen:Int)] 45)
  have HK:=Lib.hid hk
  have HBP:Hid (¬ P w.heap.size):=Lib.hid (fun hp=>by have:=h.bd _ hp;omega)
  clear hL hP h hk m0
  have HCK:=fun op=>lkCheck_any (c:=c) (s:=s) HN0.out.env op gen key
  have HFD:=fun (F1 P1:Nat→Prop) (wr:World) (h1:Env F1 ad wr) (h2:∀ k,P1 k→F1 k) (h3:PgR F1 wr P1 c s G l)=>find_any h1 h2 h3 gen root key HK.out.1
  unfold pgV at HCK HFD ⊢
  have HCK:=Lib.hid HCK
  have HFD:=Lib.hid HFD
  go_enter Tryz.func58, Tryz.ntmps58
  go_wp2_with fail
  refine (HCK.out _).mono ?_
  rintro e w1 ⟨ev,rfl,hE,hm1⟩
  have hB1:=HB0.out.ext hm1
  have b0:=hB1.cell (o:=0) (v:=.pointer (some ⟨c,0,none⟩)) rfl
  have b1:=hB1.cell (o:=1) (v:=.pointer (some ⟨s,0,none⟩)) rfl
  have b2:=hB1.cell (o:=2) (v:=.int .u64 (gen:Int)) rfl
  have HN1:=Lib.hid (HN0.out.trans (Nxt.ext HN0.out.env HN0.out.sub hm1))
  have HB1:=Lib.hid hB1
  have HG1:=Lib.hid (HG0.out.at hm1)
  clear hm1 hB1
  cases hc:lkCheck key with
  | some er =>
    obtain ⟨el,ek⟩:=er
    rw [hc] at hE
    obtain ⟨f,rfl,hE⟩:=hE
    have HE:=Lib.hid hE
    have HV:Hid (lookA G root key=.inr (el,ek)):=Lib.hid (by unfold lookA;rw [hc])
    clear hE hc
    go_wp2_with fail
    refine bodyPost_ret (v:=.tuple #[.string ⟨#[]⟩,.bool false,faultV f]) (by simp [results,Tryz.results58,go_sem]) rfl ?_
    exact ⟨P,F,HG1.out,HN1.out,by rw [HV.out];exact ⟨f,rfl,HE.out⟩⟩
  | none =>
    rw [hc] at hE
    cases hE
    by_cases hr:root=0
    · have hrb:(root == 0)=true:=beq_iff_eq.2 hr
      have HV:Hid (lookA G root key=.inl none):=Lib.hid (by unfold lookA;rw [hc];simp only [if_pos hr])
      clear hc hr
      go_wp2_with fail
      refine bodyPost_ret (v:=.tuple #[.string ⟨#[]⟩,.bool false,.nilIface]) (by simp [results,Tryz.results58,go_sem]) rfl ?_
      exact ⟨P,F,HG1.out,HN1.out,by rw [HV.out];rfl⟩
    · have hrb:(root == 0)=false:=beq_eq_false_iff_ne.2 hr
      have HV:Hid (lookA G root key=match findA G key 16 [] root with | .inr (l,k)=>.inr (-1 :: l,k) | .inl (_,n)=>(match n.entries[(findN n key).1]? with | none=>.inl none | some e=>if (findN n key).2=true then (match valueA G e with | .inl v=>.inl (some v) | .inr (l,k)=>.inr (-1 :: l,k)) else .inl none)):=Lib.hid (by unfold lookA;rw [hc];simp only [if_neg hr];rfl)
      clear hc hr
      go_wp2_with fail
      refine (HFD.out F P _ HN1.out.env HN1.out.sub HG1.out).mono ?_
      rintro e w2 ⟨P2,F2,hG2,hN2,hres⟩
      have HG2:=Lib.hid hG2
      have HN2:=Lib.hid hN2
      clear hG2 hN2
      generalize hfa:findA G key 16 [] root=r at hres
      have HFA:=Lib.hid hfa
      clear hfa
      rcases r with ⟨st,n⟩ | ⟨el,ek⟩
      · obtain ⟨sv,ve,vk,vi,rfl,hss,hse,hsk,hsi⟩:=hres
        obtain ⟨sa,sc,rfl,_,_,_,_⟩:=hss
        obtain ⟨ea,ec,rfl,hec1,hec2,hec3,hee⟩:=_root_.id hse
        obtain ⟨ka,kc,rfl,_,_,_,_⟩:=_root_.id hsk
        obtain ⟨ia,ic,rfl,_,_,_,_⟩:=hsi
        unfold maxLen at hec2
        have m2:Ext w2 (w2.alloc (.cells #[.bool n.leaf,.slice ea n.entries.length ec,.slice ka n.keys.length kc,.slice ia n.kids.length ic] 26)):=(Mods.refl _ w2).alloc _
        have HND:=Lib.hid (findNode_any n key _ _ (.slice ia n.kids.length ic) (hse.ext m2) (hsk.ext m2))
        have HX2:=Lib.hid (Blk.new w2 #[.bool n.leaf,.slice ea n.entries.length ec,.slice ka n.keys.length kc,.slice ia n.kids.length ic] 26)
        have HEE:=Lib.hid hee
        have HM2:=Lib.hid m2
        have HB2:=Lib.hid (HN2.out.blk HB1.out HBP.out)
        obtain ⟨at_,isb,hfn⟩:∃ a b,findN n key=(a,b):=⟨_,_,rfl⟩
        have HFN:=Lib.hid hfn
        rw [hfn] at HND
        have HV2:Hid (lookA G root key=match n.entries[at_]? with | none=>.inl none | some e=>if isb=true then (match valueA G e with | .inl v=>.inl (some v) | .inr (l,k)=>.inr (-1 :: l,k)) else .inl none):=Lib.hid (by rw [HV.out,HFA.out];simp only [hfn])
        have hisb:isb=true→at_ < n.entries.length:=by
          intro hb
          unfold findN at hfn
          split at hfn
          · simp only [Prod.mk.injEq] at hfn
            obtain ⟨h1,h2⟩:=hfn
            rw [h1,hb] at h2
            split at h2
            · rename_i e he;exact (List.getElem?_eq_some_iff.1 he).1
            · cases h2
          · simp only [Prod.mk.injEq] at hfn
            rw [hb] at hfn;cases hfn.2
        have HIS:=Lib.hid hisb
        clear hse hsk m2 hee hfn hisb
        go_wp2_with fail
        refine (HND.out).mono ?_
        rintro e w3 ⟨rfl,hm3⟩
        have HM3:=Lib.hid (HM2.out.trans hm3)
        have HX3:=Lib.hid (HX2.out.ext hm3)
        clear hm3
        cases isb
        · have HVN:Hid (lookA G root key=.inl none):=Lib.hid (by
            rw [HV2.out]
            split
            · rfl
            · rfl)
          go_wp2_with fail
          refine bodyPost_ret (v:=.tuple #[.string ⟨#[]⟩,.bool false,.nilIface]) (by simp [results,Tryz.results58,go_sem]) rfl ?_
          exact ⟨P2,F2,HG2.out.at HM3.out,(HN1.out.trans HN2.out).trans (Nxt.ext HN2.out.env HN2.out.sub HM3.out),by rw [HVN.out];rfl⟩
        · have hat:=HIS.out rfl
          have HAT:=Lib.hid hat
          obtain ⟨eb,eoff,rfl,_,hebF,hc4⟩:=Sl.at HEE.out HM3.out (fun _ _ f=>f.elim) at_ hat
          obtain ⟨en,hen⟩:∃ en,en=n.entries[at_]:=⟨_,rfl⟩
          have HEN:Hid (n.entries[at_]? = some en):=Lib.hid (by rw [hen];exact List.getElem?_eq_getElem hat)
          have hc4:∀ j u,(encE en)[j]? = some u→w3.cell? ⟨eb,eoff+at_ * 4+j,none⟩=some u:=by rw [hen];exact hc4
          have c0:=hc4 0 _ rfl
          simp only [Nat.add_zero] at c0
          have c1:=hc4 1 _ rfl
          have c2:=hc4 2 _ rfl
          have c3:=hc4 3 _ rfl
          have HVE:Hid (lookA G root key=match valueA G en with | .inl v=>.inl (some v) | .inr (l,k)=>.inr (-1 :: l,k)):=Lib.hid (by rw [HV2.out,HEN.out];simp only [if_true])
          have HVO:Hid (valueOk G en):=Lib.hid (HK.out.2 st n en HFA.out (by rw [HFN.out];exact HEN.out))
          have HRG:Hid (-9223372036854775808≤en.chain∧en.chain≤9223372036854775807):=Lib.hid (by
            obtain ⟨k1,k2⟩:=findA_right 16 [] root HFA.out
            have h3:=right_entry k2 k1 HEN.out
            unfold rightE at h3
            simp only [Bool.and_eq_true] at h3
            have h4:=h3.2
            split at h4
            · omega
            · simp only [Bool.and_eq_true,decide_eq_true_eq,kidB] at h4;omega)
          have HNB:=Lib.hid (HN2.out.not HB1.out.lt HBP.out)
          have HNX:Hid (¬ P2 w2.heap.size):=Lib.hid (fun hp=>by have:=HN2.out.stp.bd _ hp;omega)
          have HNE:Hid (¬ P2 eb):=Lib.hid (fun hp=>hebF (HN2.out.sub _ hp))
          have hB3:=HB2.out.ext HM3.out
          have p0:=hB3.cell (o:=0) (v:=.pointer (some ⟨c,0,none⟩)) rfl
          have p1:=hB3.cell (o:=1) (v:=.pointer (some ⟨s,0,none⟩)) rfl
          have p2:=hB3.cell (o:=2) (v:=.int .u64 (gen:Int)) rfl
          have x1:=HX3.out.cell (o:=1) (v:=.slice (some ⟨eb,eoff,none⟩) n.entries.length ec) rfl
          have i0:(0:Int)≤(at_:Int):=by omega
          have i1:(at_:Int) < (n.entries.length:Int):=by omega
          have HVC:=Lib.hid (value_any (HN2.out.env.mods HM3.out.drew.ext) HN2.out.sub (HG2.out.at HM3.out.drew) gen en HRG.out HVO.out)
          unfold pgV at HVC
          clear hen hc4 hB3
          go_wp2_with fail
          go_region_held3 (fun w'=>w'.cell? ⟨w.heap.size,0,none⟩=some (.pointer (some ⟨c,0,none⟩))∧w'.cell? ⟨w.heap.size,1,none⟩=some (.pointer (some ⟨s,0,none⟩))∧w'.cell? ⟨w.heap.size,2,none⟩=some (.int .u64 (gen:Int))∧w'.cell? ⟨w2.heap.size,1,none⟩=some (.slice (some ⟨eb,eoff,none⟩) n.entries.length ec) ∧
              w'.cell? ⟨eb,eoff+at_ * 4,none⟩=some (.string en.key)∧w'.cell? ⟨eb,eoff+at_ * 4+1,none⟩=some (.string en.value)∧w'.cell? ⟨eb,eoff+at_ * 4+2,none⟩=some (.int .i64 en.chain)∧w'.cell? ⟨eb,eoff+at_ * 4+3,none⟩=some (.int .i64 en.size))
            (first | (with_reducible exact ⟨p0,p1,p2,x1,c0,c1,c2,c3⟩) | (with_reducible exact ⟨y0,y1,y2,y3,z0,z1,z2,z3⟩) | go_keep)
            (first
              | (go_at_call 103;(with_reducible refine (HVC.out).mono ?_);rintro e w4 ⟨P4,F4,hG4,hN4,hres⟩;obtain ⟨vs,ev,rfl⟩:=hres.form;have y0:=cellM (w:=w3.drew) hN4.stp.mods p0 HNB.out;have y1:=cellM (w:=w3.drew) hN4.stp.mods p1 HNB.out;have y2:=cellM (w:=w3.drew) hN4.stp.mods p2 HNB.out;have y3:=cellM (w:=w3.drew) hN4.stp.mods x1 HNX.out;have z0:=cellM (w:=w3.drew) hN4.stp.mods c0 HNE.out;have z1:=cellM (w:=w3.drew) hN4.stp.mods c1 HNE.out;have z2:=cellM (w:=w3.drew) hN4.stp.mods c2 HNE.out;have z3:=cellM (w:=w3.drew) hN4.stp.mods c3 HNE.out)
              | fail)
          have HG4:=Lib.hid hG4
          have HN4:=Lib.hid (((HN1.out.trans HN2.out).trans (Nxt.ext HN2.out.env HN2.out.sub HM3.out.drew)).trans hN4)
          clear p0 p1 p2 x1 c0 c1 c2 c3 y0 y1 y2 y3 z0 z1 z2 z3 hG4 hN4
          generalize hva:valueA G en=r at hres
          have HVA:=Lib.hid hva
          clear hva
          rcases r with vv | ⟨el,ek⟩
          · have hre:Ending.returned (.tuple #[.string vs,ev])=.returned (.tuple #[.string vv,.nilIface]):=hres
            injection hre with hre
            simp only [Value.tuple.injEq,Array.mk.injEq,List.cons.injEq,Value.string.injEq,and_true] at hre
            obtain ⟨rfl,rfl⟩:=hre
            clear hres
            have HVF:Hid (lookA G root key=.inl (some vs)):=Lib.hid (by rw [HVE.out,HVA.out])
            go_wp2_with fail
            go_region_held3 (fun _=>True) (trivial)
              (first
                | (go_at_call 75;(with_reducible refine (wrap_nil _ _).mono ?_);rintro e w5 ⟨rfl,rfl⟩)
                | fail)
            all_goals
              go_wp2_with fail
              refine bodyPost_ret (v:=.tuple #[.string vs,.bool true,.nilIface]) (by simp [results,Tryz.results58,go_sem]) rfl ?_
              exact ⟨P4,F4,HG4.out.at (Mods.refl _ w4).drew,HN4.out.trans (Nxt.ext HN4.out.env HN4.out.sub (Mods.refl _ w4).drew),by rw [HVF.out];rfl⟩
          · obtain ⟨f,hre,hE⟩:=hres
            injection hre with hre
            simp only [Value.tuple.injEq,Array.mk.injEq,List.cons.injEq,Value.string.injEq,and_true] at hre
            obtain ⟨rfl,rfl⟩:=hre
            have HE:=Lib.hid hE
            clear hE
            have HVF:Hid (lookA G root key=.inr (-1 :: el,ek)):=Lib.hid (by rw [HVE.out,HVA.out])
            go_wp2_with fail
            go_region_held3 (fun _=>True) (trivial)
              (first
                | (go_at_call 75;(with_reducible refine (wrap_any (HN4.out.env.mods (Mods.refl _ w4).drew) _ _ _ _ (HE.out.mods (Mods.refl _ w4).drew)).mono ?_);rintro e w5 ⟨f5,rfl,hE5,hm5⟩)
                | fail)
            all_goals
              have HE5:=Lib.hid hE5
              have HM5:=Lib.hid (((Mods.refl (fun _=>False) w4).drew).trans hm5)
              clear hE5 hm5
              go_wp2_with fail
              refine bodyPost_ret (v:=.tuple #[.string ⟨#[]⟩,.bool false,faultV f5]) (by simp [results,Tryz.results58,go_sem]) rfl ?_
              exact ⟨P4,F4,HG4.out.at HM5.out,HN4.out.trans (Nxt.ext HN4.out.env HN4.out.sub HM5.out),by rw [HVF.out];exact ⟨f5,rfl,HE5.out⟩⟩
      · obtain ⟨f,rfl,hE⟩:=hres
        have HE:=Lib.hid hE
        clear hE
        have m2:Ext w2 (w2.alloc (.cells #[.bool false,.slice none 0 0,.slice none 0 0,.slice none 0 0] 26)):=(Mods.refl _ w2).alloc _
        have HM2:=Lib.hid m2
        clear m2
        go_wp2_with fail
        refine (wrap_any (HN2.out.env.mods HM2.out.ext) _ _ _ _ (HE.out.mods HM2.out.ext)).mono ?_
        rintro e w3 ⟨f3,rfl,hE3,hm3⟩
        have HE3:=Lib.hid hE3
        have HM3:=Lib.hid (HM2.out.trans hm3)
        clear hE3 hm3
        go_wp2_with fail
        refine bodyPost_ret (v:=.tuple #[.string ⟨#[]⟩,.bool false,faultV f3]) (by simp [results,Tryz.results58,go_sem]) rfl ?_
        exact ⟨P2,F2,HG2.out.at HM3.out,(HN1.out.trans HN2.out).trans (Nxt.ext HN2.out.env HN2.out.sub HM3.out),by rw [HV.out,HFA.out];exact ⟨f3,rfl,HE3.out⟩⟩
end
end Go.Proofs.YtphafjmdhmpkbaaGreatDoor
namespace Go.Proofs.YtphafjmdhmpkbaaGreatDoor
open Go.RowKit Go.Maps
attribute [local go_sem ↓] Go.wp_at_zero Go.wp_at_succ
def IntOk (i:Int):Prop:=(Lit.int .i64 i).wf=true
def SeenM (w:World) (mb:Nat) (ps:List Int):Prop :=
  ∃ D:DataW Unit,w.ownsMap Tryz.prog 3 (plainElem Tryz.prog 3) mb ps.length D∧IsMap D∧∀ i,D.atKey (.int .i64 i) (.lit (.int .i64 0))=.lit (.int .i64 (if i ∈ ps then 1 else 0))
section
variable {F P P' F' P1 F1:Nat→Prop} {ad:Nat→Addr} {w w' w0:World} {c s gen kb mb:Nat} {G:GA} {l:List Nat} {pv kv pv' kv':Value} {st st':WkS} {ps:List Int}
theorem SeenM.made (w:World):SeenM (w.alloc (.map #[] 0)) w.heap.size [] :=
  ⟨.map [],World.ownsMap_made w _ _ _,isMap_empty,fun _=>rfl⟩
theorem SeenM.lt (h:SeenM w mb ps):mb < w.heap.size:=by obtain ⟨D,h,_⟩:=h;exact h.lt
theorem SeenM.mods {Q:Nat→Prop} (h:SeenM w mb ps) (m:Mods Q w w') (hq:¬ Q mb):SeenM w' mb ps:=by
  obtain ⟨D,⟨es,clock,h1,h2⟩,h3⟩:=h
  exact ⟨D,⟨es,clock,(m.block mb (Array.getElem?_eq_some_iff.1 h1).1 hq).trans h1,h2⟩,h3⟩
theorem SeenM.put {D:DataW Unit} {i:Int} (h:∀ j,D.atKey (.int .i64 j) (.lit (.int .i64 0))=.lit (.int .i64 (if j ∈ ps then 1 else 0))) (hD:IsMap D) :
    ∀ j,(D.put (.int .i64 i) (.lit (.int .i64 1))).atKey (.int .i64 j) (.lit (.int .i64 0))=.lit (.int .i64 (if j ∈ ps ++ [i] then 1 else 0)):=by
  intro j
  by_cases hj:j=i
  · subst hj
    rw [atKey_put_same hD (by trivial),if_pos (by simp)]
  · rw [atKey_put_other (by intro e;injection e with _ e;exact hj e),h j]
    by_cases hm:j ∈ ps
    · rw [if_pos hm,if_pos (by simp [hm])]
    · rw [if_neg hm,if_neg (by simp [hm,hj])]
def WkB (kb mb:Nat) (pv kv:Value):Nat→Prop:=fun k=>k=kb∨k=mb∨pv.ownBlock=some k∨kv.ownBlock=some k
structure WkR (F P:Nat→Prop) (w:World) (base c s gen kb mb:Nat) (pv kv:Value) (st:WkS):Prop where
  blk:Blk w kb #[.pointer (some ⟨c,0,none⟩),.pointer (some ⟨s,0,none⟩),.int .u64 (gen:Int),.map (some mb),pv,kv,.int .i64 (st.depth:Int),.string st.last] 152
  seen:SeenM w mb st.pages
  rp:Own (fun _=>False) w base 3 1 encI pv st.pages
  rk:Own (fun _=>False) w base 9 1 encS kv st.keys
  nP:∀ k,WkB kb mb pv kv k→F k∧¬ P k
  few:st.pages.length≤1000∧st.keys.length≤1000000
theorem Tryz.seenU:Tryz.prog.underlying 150 = some (.map 3 3):=by kernel_rfl
theorem Tryz.intKeyed:Keyed Tryz.prog 3:=int_keyed Tryz.underlying3
theorem Tryz.intZero (w:World):(zeroValue 3).run Tryz.prog w=.ok (.int .i64 0) w:=by kernel_rfl
theorem Blk.notM {cs:Array Value} {t:TypeId} {b:Nat} (h:Blk w b cs t) (hs:SeenM w mb ps):b ≠ mb:=by
  obtain ⟨D,⟨es,clock,h1,_⟩,_⟩:=hs
  rintro rfl
  have h2:w.heap[b]? = some (.cells cs t (0,0)):=h
  rw [h1] at h2
  cases h2
theorem Own.notM {α:Type} {Q:Nat→Prop} {base sz:Nat} {e:TypeId} {enc:α→List Value} {v:Value} {x:List α} (h:Own Q w base e sz enc v x) (hs:SeenM w mb ps):∀ g,v.ownBlock=some g→g ≠ mb:=by
  obtain ⟨D,⟨es,clock,h1,_⟩,_⟩:=hs
  rintro g hg rfl
  rcases h.1.2 with ⟨rfl,_⟩ | ⟨g',cap,cur,rfl,_,hg',_⟩
  · simp [Value.ownBlock] at hg
  · simp [Value.ownBlock] at hg
    subst hg
    rw [h1] at hg'
    cases hg'
theorem Own.notO {α β:Type} {Q Q':Nat→Prop} {base base' sz sz':Nat} {e e':TypeId} {enc:α→List Value} {enc':β→List Value} {v v':Value} {x:List α} {x':List β} (h:Own Q w base e sz enc v x) (h':Own Q' w base' e' sz' enc' v' x') (hne:e ≠ e'):∀ g,v.ownBlock=some g→v'.ownBlock ≠ some g:=by
  intro g hg hg2
  rcases h.1.2 with ⟨rfl,_⟩ | ⟨g1,cap,cur,rfl,_,k1,_⟩
  · simp [Value.ownBlock] at hg
  · rcases h'.1.2 with ⟨rfl,_⟩ | ⟨g2,cap2,cur2,rfl,_,k2,_⟩
    · simp [Value.ownBlock] at hg2
    · simp [Value.ownBlock] at hg hg2
      subst hg hg2
      rw [k1] at k2
      injection k2 with k2
      injection k2 with _ k2
      exact hne k2
theorem corrupt_any (hL:Env F ad w) (id:Int) : Calls Tryz.prog 134 #[.int .i64 id] w fun e w'=>∃ b,e=.returned (faultV b)∧ErrC F ad w' (faultV b) (corrE id).1 (corrE id).2∧Ext w w':=by
  have HL:=Lib.hid hL
  have c5:=hL.c5
  have HA:=Lib.hid (fun op=>at_any hL op id _ _ _ (ErrC.sent 5 (by omega) (by omega)))
  clear hL
  go_enter Tryz.func134, Tryz.ntmps134
  go_wp2_with fail
  refine (HA.out _).mono ?_
  rintro e w1 ⟨b,rfl,hE,hm⟩
  have HE:=Lib.hid hE
  have HM:=Lib.hid hm
  clear hE hm
  go_wp2_with fail
  go_ret
  exact ⟨b,rfl,HE.out,HM.out⟩
def SeeD (F P:Nat→Prop) (ad:Nat→Addr) (w:World) (base c s gen kb mb:Nat) (pv kv:Value) (st:WkS) (id:Int) (e:Ending) (w':World):Prop :=
  match seeW st id with
  | .inr (el,ek)=>∃ f,e=.returned (faultV f)∧ErrC F ad w' (faultV f) el ek∧Ext w w'
  | .inl st1=>∃ pv',e=.returned .nilIface∧WkR (plusV F pv') P w' base c s gen kb mb pv' kv st1∧Mods (WkB kb mb pv kv) w w'∧(pv'.ownBlock=pv.ownBlock∨∃ K,w.heap.size≤K∧pv'.ownBlock=some K)
set_option maxRecDepth 100000 in
set_option maxHeartbeats 1000000 in
theorem see_any (hL:Env F ad w) (hP:∀ k,P k→F k) {base:Nat} (hb:base≤w.heap.size) (h:WkR F P w base c s gen kb mb pv kv st) (id:Int) (hid:IntOk id) (hfew:st.pages.length < 1000) :
    Calls Tryz.prog 135 #[.pointer (some ⟨kb,0,none⟩),.int .i64 id] w (SeeD F P ad w base c s gen kb mb pv kv st id):=by
  obtain ⟨D,h1,h2,h3⟩:=h.seen
  have HW:=Lib.hid h
  have HL:=Lib.hid hL
  have HP:=Lib.hid hP
  have HS:=Lib.hid h1
  have HB:=Lib.hid hb
  have HI:=Lib.hid h2
  have H3:=Lib.hid h3
  have hkey:keyOf Tryz.prog 3 (.int .i64 id)=some (.int .i64 id):=keyOf_int_mk Tryz.underlying3 hid
  obtain ⟨cc,hrun,hat,hwf⟩:=h1.lookup_int Tryz.intKeyed Tryz.seenU Tryz.underlying3 (Tryz.intZero w) hkey
  rw [h3 id] at hat
  have HCR:=Lib.hid (corrupt_any hL id)
  obtain ⟨pa,pc,rfl, -, -⟩:=_root_.id h.rp.form
  have k1:=h.blk.cell (o:=3) (v:=.map (some mb)) rfl
  have HNE:=Lib.hid (Blk.notM h.blk h.seen)
  by_cases hm:id ∈ st.pages
  · rw [if_pos hm] at hat
    obtain rfl:cc=1:=by injection hat with e;injection e with _ e;exact e.symm
    have HV:Hid (seeW st id=.inr (corrE id)):=Lib.hid (by unfold seeW;rw [if_pos hm])
    clear hat h h1 hL hP hb h2 h3 hm
    go_enter Tryz.func135, Tryz.ntmps135
    go_wp2_with fail
    refine (HCR.out).mono ?_
    rintro e w1 ⟨f,rfl,hE,hm⟩
    have HE:=Lib.hid hE
    have HM:=Lib.hid hm
    clear hE hm
    go_wp2_with fail
    go_ret
    unfold SeeD
    rw [HV.out]
    exact ⟨f,rfl,HE.out,HM.out⟩
  · rw [if_neg hm] at hat
    obtain rfl:cc=0:=by injection hat with e;injection e with _ e;exact e.symm
    have HV:Hid (seeW st id=.inl { st with pages:=st.pages ++ [id] }):=Lib.hid (by unfold seeW;rw [if_neg hm])
    obtain ⟨n,hn⟩:∃ n,n=st.pages.length:=⟨_,rfl⟩
    have HN:=Lib.hid hn
    clear hat h h1 hL hP hb h2 h3 hm hn
    have hfew':n < 1000:=by have:=HN.out;omega
    clear hfew
    go_enter Tryz.func135, Tryz.ntmps135
    have e1:st.pages.length + [id].length=n+1:=by have:=HN.out;simp;omega
    go_wp2_with (first
      | (at_mapUpdate;refine wpList_mapUpdate_own _ rfl _ _ _ 150 rfl 3 3 Tryz.intKeyed Tryz.seenU _ mb st.pages.length D rfl HS.out (by have:=HN.out;simp [maxLen];omega) _ _ (.int .i64 id) rfl rfl hkey (.lit (.int .i64 1)) [] (plainElem_int Tryz.underlying3 (by decide)) ?_;intro w1 hown1 hgrow1;have HG1:Hid (w.grownBy w1 (some mb)):=Lib.hid hgrow1;have hB1:Blk w1 kb #[.pointer (some ⟨c,0,none⟩),.pointer (some ⟨s,0,none⟩),.int .u64 (gen:Int),.map (some mb),.slice pa st.pages.length pc,kv,.int .i64 (st.depth:Int),.string st.last] 152:=(HW.out.blk.mods (Mods.of_grown hgrow1) (fun e=>HNE.out (Option.some.inj e).symm));have HB1:=Lib.hid hB1;have y4:=hB1.cell (o:=4) (v:=.slice pa st.pages.length pc) rfl;have HO1:Hid (Own (fun _=>False) w1 base 3 1 encI (.slice pa st.pages.length pc) st.pages):=Lib.hid (HW.out.rp.mods (Mods.of_grown hgrow1) (fun g hg e=>Own.notM HW.out.rp HW.out.seen g hg (Option.some.inj e).symm));have HM1:=Lib.hid hown1;clear hown1 hgrow1 hB1)
      | (at_builtin;refine wpl_app2 Tryz.elI encI_ok rfl _ _ rfl base (.slice pa st.pages.length pc) (.slice (some ⟨w1.heap.size,0,none⟩) 1 1) st.pages [id] rfl rfl (HO1.out.ext ((Mods.refl _ _).alloc _)) (Sl.one (F:=fun _=>False) (x:=id) (t := 3) (fz:=(0,0)) (heap_at rfl) (fun f=>f)) (by have:=HN.out;simp;omega) (Nat.le_trans (Nat.le_trans HB.out HG1.out.size) (by simp)) (fun f=>f) ?_;intro a' c' w4 hown4 hmod4 hat4;rw [e1] at hown4 hat4 ⊢;have hB4:=(HB1.out.alloc (.cells #[.int .i64 id] 3)).mods hmod4 (fun e=>Own.notB HO1.out HB1.out (by decide) _ e rfl);have HB4:=Lib.hid hB4;have z4:=hB4.cell (o:=4) (v:=.slice pa st.pages.length pc) rfl;have zf:=hB4.frozen;clear hB4)
      | fail)
    have hsz:w.heap.size≤(w1.alloc (.cells #[.int .i64 id] 3)).heap.size:=Nat.le_trans HG1.out.size (by simp)
    have HF:Hid (WkR (plusV F (.slice a' (n+1) c')) P (w4.setCell ⟨kb,4,none⟩ (.slice a' (n+1) c')) base c s gen kb mb (.slice a' (n+1) c') kv { st with pages:=st.pages ++ [id] }∧Mods (WkB kb mb (.slice pa st.pages.length pc) kv) w (w4.setCell ⟨kb,4,none⟩ (.slice a' (n+1) c'))∧((Value.slice a' (n+1) c').ownBlock=(Value.slice pa st.pages.length pc).ownBlock∨∃ K,w.heap.size≤K∧(Value.slice a' (n+1) c').ownBlock=some K)):=Lib.hid (by
      have g1:=Mods.of_grown HG1.out
      have g5:Mods (fun k=>k=kb) w4 (w4.setCell ⟨kb,4,none⟩ (.slice a' (n+1) c')):=Mods.setCell (F:=fun k=>k=kb) (p:=⟨kb,4,none⟩) (Mods.refl _ w4) (.inr rfl) _
      have m4:Mods (WkB kb mb (.slice pa st.pages.length pc) kv) w w4:=((g1.mono (fun k e=>.inr (.inl (Option.some.inj e).symm))).alloc (.cells #[.int .i64 id] 3)).trans (hmod4.mono (fun k e=>.inr (.inr (.inl e))))
      have m1:Mods (fun k=>k=kb∨(Value.slice pa st.pages.length pc).ownBlock=some k) w1 (w4.setCell ⟨kb,4,none⟩ (.slice a' (n+1) c')):=(((Mods.refl _ w1).alloc (.cells #[.int .i64 id] 3)).trans (hmod4.mono (fun k e=>.inr e))).setCell (p:=⟨kb,4,none⟩) (.inr (.inl rfl)) _
      have s1:SeenM w1 mb (st.pages ++ [id]):=⟨_,by rw [List.length_append];exact HM1.out,HI.out.put _ _,SeenM.put H3.out HI.out⟩
      have rk1:=(HW.out.rk.mods g1 (fun g hg e=>Own.notM HW.out.rk HW.out.seen g hg (Option.some.inj e).symm)).ext ((Mods.refl _ w1).alloc (.cells #[.int .i64 id] 3))
      have rk4:=rk1.mods hmod4 (fun g hg e=>Own.notO HW.out.rk HW.out.rp (by decide) g hg e)
      refine ⟨⟨HB4.out.set 4 _,s1.mods m1 ?_,hown4.mods g5 (fun g hg e=>Own.notB hown4 HB4.out (by decide) g hg e),rk4.mods g5 (fun g hg e=>Own.notB rk4 HB4.out (by decide) g hg e),?_,?_⟩,m4.setCell (p:=⟨kb,4,none⟩) (.inr (.inl rfl)) _,?_⟩
      · rintro (e | e)
        · exact HNE.out e.symm
        · exact Own.notM HW.out.rp HW.out.seen _ e rfl
      · rintro k (e | e | e | e)
        · exact ⟨.inl (HW.out.nP k (.inl e)).1,(HW.out.nP k (.inl e)).2⟩
        · exact ⟨.inl (HW.out.nP k (.inr (.inl e))).1,(HW.out.nP k (.inr (.inl e))).2⟩
        · refine ⟨.inr e,fun hp=>?_⟩
          rcases hat4 with h5 | h5
          · exact (HW.out.nP k (.inr (.inr (.inl (h5 ▸ e))))).2 hp
          · rw [h5] at e
            injection e with e
            have:=HL.out.lt k (HP.out k hp)
            omega
        · exact ⟨.inl (HW.out.nP k (.inr (.inr (.inr e)))).1,(HW.out.nP k (.inr (.inr (.inr e)))).2⟩
      · have:=HW.out.few
        have:=HN.out
        simp only [List.length_append,List.length_cons,List.length_nil]
        omega
      · rcases hat4 with h5 | h5
        · exact .inl h5
        · exact .inr ⟨_,hsz,h5⟩)
    clear hmod4 hat4 hown4 hsz
    go_ret
    unfold SeeD
    rw [HV.out]
    exact ⟨_,rfl,HF.out⟩
end
end Go.Proofs.YtphafjmdhmpkbaaGreatDoor
