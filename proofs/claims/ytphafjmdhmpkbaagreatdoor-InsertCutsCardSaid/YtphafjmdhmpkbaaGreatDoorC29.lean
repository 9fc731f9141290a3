/- ref13.Cut. -/
import Derived.Test.YtphafjmdhmpkbaaGreatDoorC27
import Derived.Test.YtphafjmdhmpkbaaGreatDoorC28
import Derived.Test.YtphafjmdhmpkbaaGreatDoorC23
import Derived.BigQuiet
import Derived.Deep.RegionHeld3
namespace Go.Proofs.YtphafjmdhmpkbaaGreatDoor
open Go.RowKit
attribute [local go_sem ↓] Go.wp_at_zero Go.wp_at_succ
theorem NodeO.blk {w w':World} {base X:Nat} {v:Value} {n:NodeA} {c:Array Value} (h:NodeO w base v n) (hB:Blk w X c 31) (m:Mods (fun k=>k=X) w w'):NodeO w' base v n:=by
  obtain ⟨ve,vk,vi,e,h1,h2,h3⟩:=h
  exact ⟨ve,vk,vi,e,h1.mods m (fun g hg e=>h1.notB hB (by decide) g hg e),h2.mods m (fun g hg e=>h2.notB hB (by decide) g hg e),h3.mods m (fun g hg e=>h3.notB hB (by decide) g hg e)⟩
theorem NodeO.slices {w:World} {base:Nat} {b:Bool} {e k i:Value} {n:NodeA} (h:NodeO w base (.agg #[.bool b,e,k,i]) n):∃ ea ec ka kc ia ic,e=.slice ea n.entries.length ec∧k=.slice ka n.keys.length kc∧i=.slice ia n.kids.length ic:=by
  obtain ⟨_,_,_,q,h1,h2,h3⟩:=h
  simp only [Value.agg.injEq,Array.mk.injEq,List.cons.injEq,and_true] at q
  obtain ⟨_,rfl,rfl,rfl⟩:=q
  obtain ⟨ea,ec,rfl,_,_⟩:=h1.form
  obtain ⟨ka,kc,rfl,_,_⟩:=h2.form
  obtain ⟨ia,ic,rfl,_,_⟩:=h3.form
  exact ⟨_,_,_,_,_,_,rfl,rfl,rfl⟩
structure BestS (w wr:World) (X:Nat) (x:NodeA × ByteArray × NodeA) (e1 k1 i1 e2 k2 i2:Value):Prop where
  blk:Blk wr X #[.bool x.1.leaf,e1,k1,i1,.bool x.2.2.leaf,e2,k2,i2,.string x.2.1,.bool true] 31
  na:NodeO wr w.heap.size (.agg #[.bool x.1.leaf,e1,k1,i1]) x.1
  nb:NodeO wr w.heap.size (.agg #[.bool x.2.2.leaf,e2,k2,i2]) x.2.2
theorem BestS.ext {w wr w':World} {X:Nat} {x:NodeA × ByteArray × NodeA} {e1 k1 i1 e2 k2 i2:Value} (h:BestS w wr X x e1 k1 i1 e2 k2 i2) (m:Ext wr w'):BestS w w' X x e1 k1 i1 e2 k2 i2:=⟨h.blk.ext m,h.na.ext m,h.nb.ext m⟩
def CutS (n:NodeA) (w wr:World) (X fr j b:Nat):Prop :=
  (j=0∧b=fr∧Blk wr X halvesZc 31)∨(0 < j∧PlaceN n b∧∃ e1 k1 i1 e2 k2 i2,BestS w wr X (apartA n b) e1 k1 i1 e2 k2 i2)
theorem CutS.lt {n:NodeA} {w wr:World} {X fr j b:Nat} (h:CutS n w wr X fr j b):X < wr.heap.size:=by
  rcases h with ⟨_,_,h⟩ | ⟨_,_,_,_,_,_,_,_,h⟩
  · exact h.lt
  · exact h.blk.lt
def CutE (n:NodeA) (w wr:World) (X:Nat):Prop :=
  (cutA n=none∧Blk wr X halvesZc 31)∨∃ b,cutA n=some (apartA n b)∧∃ e1 k1 i1 e2 k2 i2,BestS w wr X (apartA n b) e1 k1 i1 e2 k2 i2
def CutO (w:World) (base:Nat) (v:Value) (o:Option (NodeA × ByteArray × NodeA)):Prop:=match o with
  | none=>v=.agg halvesZc
  | some x=>HalvesO w base v x
section
variable {F:Nat→Prop} {w w':World}
theorem apartO (x:NodeA × ByteArray × NodeA) {W:World} {base:Nat} {e1 k1 i1 e2 k2 i2:Value} (ha:NodeO W base (.agg #[.bool x.1.leaf,e1,k1,i1]) x.1) (hb:NodeO W base (.agg #[.bool x.2.2.leaf,e2,k2,i2]) x.2.2) (hx:okB x.1) (hy:okB x.2.2) (h1:(bytesN x.1).length≤100000) (h2:(bytesN x.2.2).length≤100000)
    (hl:x.1.entries.length≤100000∧x.1.keys.length≤100000∧x.1.kids.length≤100000∧x.2.2.entries.length≤100000∧x.2.2.keys.length≤100000∧x.2.2.kids.length≤100000) :
    Calls Tryz.prog 63 #[.agg #[.bool x.1.leaf,e1,k1,i1,.bool x.2.2.leaf,e2,k2,i2,.string x.2.1,.bool true]] W fun e w'=>e=.returned (.int .i64 (((weightA x.1:Int) - (weightA x.2.2:Int)).natAbs:Nat))∧Ext W w':=by
  obtain ⟨_,_,_,q,a1,a2,a3⟩:=ha
  obtain ⟨_,_,_,r,b1,b2,b3⟩:=hb
  simp only [Value.agg.injEq,Array.mk.injEq,List.cons.injEq,and_true,true_and] at q r
  obtain ⟨rfl,rfl,rfl⟩:=q
  obtain ⟨rfl,rfl,rfl⟩:=r
  exact apart13_any x.1 x.2.2 _ _ rfl rfl e1 k1 i1 e2 k2 i2 x.2.1 true (a1.sl encE_ok.len (by omega)) (a2.sl encS_ok.len (by omega)) (a3.sl encI_ok.len (by omega)) (b1.sl encE_ok.len (by omega)) (b2.sl encS_ok.len (by omega)) (b3.sl encI_ok.len (by omega)) hx hy h1 h2
theorem apart_len6 {n:NodeA} (a:Nat) (h1:n.entries.length≤100000) (h2:n.keys.length≤100000) (h3:n.kids.length≤100000):(apartA n a).1.entries.length≤100000∧(apartA n a).1.keys.length≤100000∧(apartA n a).1.kids.length≤100000∧(apartA n a).2.2.entries.length≤100000∧(apartA n a).2.2.keys.length≤100000∧(apartA n a).2.2.kids.length≤100000:=by
  cases hl:n.leaf with
  | true=>rw [apart_leafA hl,apart_leafB hl];simp;omega
  | false=>rw [apart_innerA hl,apart_innerB hl];simp;omega
set_option maxRecDepth 100000 in
set_option maxHeartbeats 8000000 in
theorem cut13L_any (n:NodeA) (hlf:n.leaf=true) (hr:rightN n=true) (ve vk vi:Value) (hve:Sl F w 4 encE ve n.entries) (hvk:Sl F w 1 encS vk n.keys) (hvi:Sl F w 1 encI vi n.kids) (hln:n.entries.length≤1000∧n.keys.length≤1000∧n.kids.length≤1000) (hbl:(bytesN n).length≤100000) :
    Calls Tryz.prog 14 #[.agg #[.bool true,ve,vk,vi]] w fun e w'=>∃ v,e=.returned v∧CutO w' w.heap.size v (cutA n)∧Ext w w':=by
  obtain ⟨T,hT⟩:∃ T,T=n.entries.length:=⟨_,rfl⟩
  obtain ⟨q,hq⟩:∃ q,q=firstMin (unlikeA n) 1 1 (T - 1):=⟨_,rfl⟩
  have hform:=form_right hr
  have hformU:=hform
  unfold formN at hformU
  rw [if_pos hlf] at hformU
  have HT:=Lib.hid hT
  have HQQ:=Lib.hid hq
  have HRT:=Lib.hid hr
  have HLF:=Lib.hid hlf
  have HLN:=Lib.hid hln
  have HMY:Hid (cutMany n=T - 1):=Lib.hid (by unfold cutMany;rw [if_pos hlf,hT])
  have HFR:Hid (cutFrom n=1):=Lib.hid (by unfold cutFrom;rw [if_pos hlf])
  have HPN:Hid (∀ a,1≤a→a < T→PlaceN n a):=Lib.hid (fun a h1 h2=>⟨fun _=>⟨h1,by omega⟩,fun h=>(by rw [hlf] at h;cases h)⟩)
  have HOK:Hid (∀ a,PlaceN n a→okB (apartA n a).1∧okB (apartA n a).2.2∧(bytesN (apartA n a).1).length≤100000∧(bytesN (apartA n a).2.2).length≤100000∧((apartA n a).1.entries.length≤100000∧(apartA n a).1.keys.length≤100000∧(apartA n a).1.kids.length≤100000∧(apartA n a).2.2.entries.length≤100000∧(apartA n a).2.2.keys.length≤100000∧(apartA n a).2.2.kids.length≤100000)):=Lib.hid (fun a hp=>by
    have h1:=apart_right hr hp
    have h2:=apart_form hform hp
    have h3:=apart_weight (n:=n) (a:=a)
    have h4:=weight_len h2.1
    have h5:=weight_len h2.2
    have h6:=weight_len hform
    exact ⟨h1.1,h1.2,by omega,by omega,apart_len6 a (by omega) (by omega) (by omega)⟩)
  skip
  have HVE:=Lib.hid hve
  have HVK:=Lib.hid hvk
  have HVI:=Lib.hid hvi
  obtain ⟨w0,hw0⟩:∃ w0,w0=((w.alloc (.cells #[.bool true,ve,vk,vi] 26)).alloc (.cells halvesZc 31)).alloc (.cells halvesZc 31):=⟨_,rfl⟩
  have m0:Ext w w0:=by rw [hw0];exact (((Mods.refl _ w).alloc _).alloc _).alloc _
  have HB0:Hid (Blk w0 w.heap.size #[.bool true,ve,vk,vi] 26):=Lib.hid (by rw [hw0];exact ((Blk.new w _ _).alloc _).alloc _)
  have HR0:Hid (Blk w0 (w.heap.size+1) halvesZc 31):=Lib.hid (by rw [hw0];exact Blk.alloc (heap_at (by simp)) _)
  have HX0:Hid (Blk w0 (w.heap.size+1+1) halvesZc 31):=Lib.hid (by rw [hw0];exact heap_at (by simp))
  have HM0:=Lib.hid m0
  have HLC:Hid (∀ W,Ext w W→∀ p,PlaceN n p → Calls Tryz.prog 62 #[.agg #[.bool true,ve,vk,vi],.int .i64 (p:Int)] W fun e w'=>∃ v,e=.returned v∧HalvesO w' W.heap.size v (apartA n p)∧Ext W w'):=Lib.hid (fun W m p hp=>leaf13_any (w:=W) n HLF.out _ _ _ (HVE.out.ext m) p (hp.leaf HLF.out) (by have:=HLN.out;omega))
  have hRG:=right07_t (w:=w0) n ve vk vi (hve.ext m0) (hvk.ext m0) (hvi.ext m0) true hr
  rw [hlf] at hRG
  have HRG:=Lib.hid hRG
  obtain ⟨ea,ec,rfl,he1,he2,he3, -⟩:=hve
  obtain ⟨ka,kc,rfl,hk1,hk2,hk3, -⟩:=hvk
  obtain ⟨ia,ic,rfl,hi1,hi2,hi3, -⟩:=hvi
  unfold maxLen at he2 hk2 hi2
  have u2:IntKind.i64.wrap ((n.kids.length:Int) - 1) = -1:=by rw [hformU.2];rfl
  have hTb:T≤1000:=by omega
  have HW0:=Lib.hid hw0
  clear m0 hRG hw0 hT hq hr hlf hln hbl hform hformU
  go_enter Tryz.func14, Tryz.ntmps14
  go_wp2_with fail
  unfold halvesZc at HW0
  rw [← HW0.out]
  refine HRG.out.mono ?_
  rintro e w1 ⟨rfl,hm1⟩
  have HE1:=Lib.hid (HM0.out.trans hm1)
  have HB1:=Lib.hid (HB0.out.ext hm1)
  have HR1:=Lib.hid (HR0.out.ext hm1)
  have HX1:=Lib.hid (HX0.out.ext hm1)
  clear hm1
  go_wp2_with fail
  go_loopg [4] (T - 1) (fun m v wr=>∃ (a b:Nat),a+m=1+(T - 1)∧v=.int .i64 (a:Int)∧Hid (CutS n w wr (w.heap.size+1+1) 1 (a - 1) b∧(1≤a∧firstMin (unlikeA n) b a m=q)∧Ext w wr∧Blk wr w.heap.size #[.bool true,.slice ea n.entries.length ec,.slice ka n.keys.length kc,.slice ia n.kids.length ic] 26 ∧ Blk wr (w.heap.size+1) halvesZc 31))
  case atStart=>exact ⟨1,1,by omega,rfl,Lib.hid ⟨.inl ⟨by omega,rfl,HX1.out⟩,⟨Nat.le_refl _,HQQ.out.symm⟩,HE1.out,HB1.out,HR1.out⟩⟩
  case round =>
    obtain ⟨a,b,ham,rfl,HC⟩:=hrel
    have nb:=HC.out.2.2.2.1
    have n0:=nb.cell (o:=0) (v:=.bool true) rfl
    have n1:=nb.cell (o:=1) (v:=.slice ea n.entries.length ec) rfl
    have n2:=nb.cell (o:=2) (v:=.slice ka n.keys.length kc) rfl
    have n3:=nb.cell (o:=3) (v:=.slice ia n.kids.length ic) rfl
    have hfa:=HC.out.2.1.1
    clear nb
    by_cases hlt:a < T
    · have HPL:=Lib.hid (HPN.out a hfa hlt)
      obtain ⟨m,rfl⟩:∃ m,gk=m+1:=⟨gk - 1,by omega⟩
      have HLL:=Lib.hid (HLC.out wr HC.out.2.2.1 a HPL.out)
      have hlt2:(a:Int) < (n.entries.length:Int):=by have:=HT.out;omega
      go_wp2_with fail
      refine HLL.out.mono ?_
      rintro e w2 ⟨v,rfl,hO,hm2⟩
      obtain ⟨f1,l1,j1,f2,l2,j2,rfl,hA,hB⟩:=hO
      obtain ⟨fa1,fc1,la1,lc1,ja1,jc1,rfl,rfl,rfl⟩:=hA.slices
      obtain ⟨fa2,fc2,la2,lc2,ja2,jc2,rfl,rfl,rfl⟩:=hB.slices
      obtain ⟨w3,hw3⟩:∃ w3,w3=w2.alloc (.cells #[.bool (apartA n a).1.leaf,.slice fa1 (apartA n a).1.entries.length fc1,.slice la1 (apartA n a).1.keys.length lc1,.slice ja1 (apartA n a).1.kids.length jc1,.bool (apartA n a).2.2.leaf,.slice fa2 (apartA n a).2.2.entries.length fc2,.slice la2 (apartA n a).2.2.keys.length lc2,.slice ja2 (apartA n a).2.2.kids.length jc2,.string (apartA n a).2.1,.bool true] 31):=⟨_,rfl⟩
      have m3:Ext w2 w3:=by rw [hw3];exact (Mods.refl _ w2).alloc _
      have m23:=hm2.trans m3
      have hd:=(Mods.refl (fun _=>False) w3).drew
      have hnew:Blk w3 w2.heap.size #[.bool (apartA n a).1.leaf,.slice fa1 (apartA n a).1.entries.length fc1,.slice la1 (apartA n a).1.keys.length lc1,.slice ja1 (apartA n a).1.kids.length jc1,.bool (apartA n a).2.2.leaf,.slice fa2 (apartA n a).2.2.entries.length fc2,.slice la2 (apartA n a).2.2.keys.length lc2,.slice ja2 (apartA n a).2.2.kids.length jc2,.string (apartA n a).2.1,.bool true] 31:=by rw [hw3];exact Blk.new _ _ _
      have HNA0:=Lib.hid ((hA.ext m3).rebase HC.out.2.2.1.size)
      have HNB0:=Lib.hid ((hB.ext m3).rebase HC.out.2.2.1.size)
      have HX0:=Lib.hid (HC.out.2.2.1.trans m23)
      have HB0:=Lib.hid (HC.out.2.2.2.1.ext m23)
      have HR0:=Lib.hid (HC.out.2.2.2.2.ext m23)
      have HW3:=Lib.hid hw3
      have hz3:w.heap.size+1+1 < w2.heap.size:=by
        have h2:=hm2.size
        have h3:=HC.out.1.lt
        omega
      have ne3:¬ w.heap.size+1+1=w2.heap.size:=by omega
      have ne4:¬ w2.heap.size=w.heap.size+1+1:=by omega
      have p0:=hnew.cell (o:=0) rfl
      have p1:=hnew.cell (o:=1) rfl
      have p2:=hnew.cell (o:=2) rfl
      have p3:=hnew.cell (o:=3) rfl
      have p4:=hnew.cell (o:=4) rfl
      have p5:=hnew.cell (o:=5) rfl
      have p6:=hnew.cell (o:=6) rfl
      have p7:=hnew.cell (o:=7) rfl
      have p8:=hnew.cell (o:=8) rfl
      have p9:=hnew.cell (o:=9) rfl
      clear hw3 n0 n1 n2 n3
      rcases HC.out.1 with ⟨hj0,hbf,hbx0⟩ | ⟨hj,hpb,e1,k1,i1,e2,k2,i2,hbs⟩
      · have hbx:=hbx0.ext m23
        have HQN:Hid (firstMin (unlikeA n) a (a+1) m=q):=Lib.hid (by
          have h:=HC.out.2.1.2
          have e:b=a:=by omega
          rw [e,firstMin_same] at h;exact h)
        have x9:=hbx.cell (o:=9) (v:=.bool false) rfl
        have x0:=hbx.cell (o:=0) rfl
        have x1:=hbx.cell (o:=1) rfl
        have x2:=hbx.cell (o:=2) rfl
        have x3:=hbx.cell (o:=3) rfl
        have x4:=hbx.cell (o:=4) rfl
        have x5:=hbx.cell (o:=5) rfl
        have x6:=hbx.cell (o:=6) rfl
        have x7:=hbx.cell (o:=7) rfl
        have x8:=hbx.cell (o:=8) rfl
        have xf:=hbx.frozen
        have HNA:=HNA0
        have HNB:=HNB0
        have HX3:=HX0
        have HB3:=HB0
        have HR3:=HR0
        clear hj0 hbf hbx0 m23 m3 hm2 hA hB
        go_wp2_with fail
        rw [← HW3.out]
        refine wp_region_held_drew (S := fun w' => w'.cell? ⟨w.heap.size + 1 + 1, 9, none⟩ = some (.bool false)) (by kernel_rfl) (by first | exact x9 | go_keep) (fun hHeld => ?_)
        refine wpAnyH_take (i := 0) (oi := { dst := some 23, op := _, type := _, pos := _, after := _, guard := _ }) (v := ?_) rfl (by kernel_rfl) (by kernel_rfl) (by kernel_rfl) (fun _ _ _ h => h) (Or.inl ⟨by rfl, ?_⟩) (by assumption) ?_
        rotate_left
        · intro w hSw; (try dsimp only at hSw); go_simp; (try (with_reducible rfl))
        rotate_left
        try simp only [Act.put, List.setIfInBounds_toArray, List.set_cons_zero, List.set_cons_succ]
        refine wpAnyH_take (i := 1) (oi := { dst := some 24, op := _, type := _, pos := _, after := _, guard := _ }) (v := ?_) rfl (by kernel_rfl) (by kernel_rfl) (by kernel_rfl) (fun _ _ _ h => h) (Or.inl ⟨by rfl, ?_⟩) (by assumption) ?_
        rotate_left
        · intro w hSw; (try dsimp only at hSw); go_simp; (try (with_reducible rfl))
        rotate_left
        try simp only [Act.put, List.setIfInBounds_toArray, List.set_cons_zero, List.set_cons_succ]
        refine wpAnyH_take (i := 2) (oi := { dst := some 25, op := _, type := _, pos := _, after := _, guard := _ }) (v := ?_) rfl (by kernel_rfl) (by kernel_rfl) (by kernel_rfl) (fun _ _ _ h => h) (Or.inl ⟨by rfl, ?_⟩) (by assumption) ?_
        rotate_left
        · intro w hSw; (try dsimp only at hSw); go_simp; (try (with_reducible rfl))
        rotate_left
        try simp only [Act.put, List.setIfInBounds_toArray, List.set_cons_zero, List.set_cons_succ]
        refine wpAnyH_take (i := 3) (oi := { dst := some 26, op := _, type := _, pos := _, after := _, guard := _ }) (v := ?_) rfl (by kernel_rfl) (by kernel_rfl) (by kernel_rfl) (fun _ _ _ h => h) (Or.inl ⟨by rfl, ?_⟩) (by assumption) ?_
        rotate_left
        · intro w hSw; (try dsimp only at hSw); go_simp; (try (with_reducible rfl))
        rotate_left
        try simp only [Act.put, List.setIfInBounds_toArray, List.set_cons_zero, List.set_cons_succ]
        refine wpAnyH_take (i := 4) (oi := { dst := some 27, op := _, type := _, pos := _, after := _, guard := _ }) (v := undef) rfl (by kernel_rfl) (by kernel_rfl) (by kernel_rfl) (fun _ _ _ h => h) (Or.inr ⟨by rfl, rfl⟩) (by assumption) ?_
        try simp only [Act.put, List.setIfInBounds_toArray, List.set_cons_zero, List.set_cons_succ]
        refine wpAnyH_take (i := 5) (oi := { dst := some 28, op := _, type := _, pos := _, after := _, guard := _ }) (v := undef) rfl (by kernel_rfl) (by kernel_rfl) (by kernel_rfl) (fun _ _ _ h => h) (Or.inr ⟨by rfl, rfl⟩) (by assumption) ?_
        try simp only [Act.put, List.setIfInBounds_toArray, List.set_cons_zero, List.set_cons_succ]
        refine wpAnyH_take (i := 6) (oi := { dst := some 29, op := _, type := _, pos := _, after := _, guard := _ }) (v := undef) rfl (by kernel_rfl) (by kernel_rfl) (by kernel_rfl) (fun _ _ _ h => h) (Or.inr ⟨by rfl, rfl⟩) (by assumption) ?_
        try simp only [Act.put, List.setIfInBounds_toArray, List.set_cons_zero, List.set_cons_succ]
        refine wpAnyH_take (i := 7) (oi := { dst := some 30, op := _, type := _, pos := _, after := _, guard := _ }) (v := undef) rfl (by kernel_rfl) (by kernel_rfl) (by kernel_rfl) (fun _ _ _ h => h) (Or.inr ⟨by rfl, rfl⟩) (by assumption) ?_
        try simp only [Act.put, List.setIfInBounds_toArray, List.set_cons_zero, List.set_cons_succ]
        refine wpAnyH_take (i := 8) (oi := { dst := some 31, op := _, type := _, pos := _, after := _, guard := _ }) (v := undef) rfl (by kernel_rfl) (by kernel_rfl) (by kernel_rfl) (fun _ _ _ h => h) (Or.inr ⟨by rfl, rfl⟩) (by assumption) ?_
        try simp only [Act.put, List.setIfInBounds_toArray, List.set_cons_zero, List.set_cons_succ]
        refine wpAnyH_take (i := 9) (oi := { dst := some 32, op := _, type := _, pos := _, after := _, guard := _ }) (v := ?_) rfl (by kernel_rfl) (by kernel_rfl) (by kernel_rfl) (fun _ _ _ h => h) (Or.inl ⟨by rfl, ?_⟩) (by assumption) ?_
        rotate_left
        · intro w hSw; (try dsimp only at hSw); go_simp; (try (with_reducible rfl))
        rotate_left
        try simp only [Act.put, List.setIfInBounds_toArray, List.set_cons_zero, List.set_cons_succ]
        refine wpAnyH_done (by kernel_rfl) ?_ _
        all_goals
          go_wp2_with fail
          have mX:Mods (fun k=>k=w.heap.size+1+1) w3 (hv10 (.bool (apartA n a).1.leaf) (.slice fa1 (apartA n a).1.entries.length fc1) (.slice la1 (apartA n a).1.keys.length lc1) (.slice ja1 (apartA n a).1.kids.length jc1) (.bool (apartA n a).2.2.leaf) (.slice fa2 (apartA n a).2.2.entries.length fc2) (.slice la2 (apartA n a).2.2.keys.length lc2) (.slice ja2 (apartA n a).2.2.kids.length jc2) (.string (apartA n a).2.1) (.bool true) w3 (w.heap.size+1+1)):=Mods.set10 (F:=fun k=>k=w.heap.size+1+1) (Mods.refl _ w3) (.inr rfl) (.bool (apartA n a).1.leaf) (.slice fa1 (apartA n a).1.entries.length fc1) (.slice la1 (apartA n a).1.keys.length lc1) (.slice ja1 (apartA n a).1.kids.length jc1) (.bool (apartA n a).2.2.leaf) (.slice fa2 (apartA n a).2.2.entries.length fc2) (.slice la2 (apartA n a).2.2.keys.length lc2) (.slice ja2 (apartA n a).2.2.kids.length jc2) (.string (apartA n a).2.1) (.bool true)
          have HBS:Hid (BestS w (hv10 (.bool (apartA n a).1.leaf) (.slice fa1 (apartA n a).1.entries.length fc1) (.slice la1 (apartA n a).1.keys.length lc1) (.slice ja1 (apartA n a).1.kids.length jc1) (.bool (apartA n a).2.2.leaf) (.slice fa2 (apartA n a).2.2.entries.length fc2) (.slice la2 (apartA n a).2.2.keys.length lc2) (.slice ja2 (apartA n a).2.2.kids.length jc2) (.string (apartA n a).2.1) (.bool true) w3 (w.heap.size+1+1)).drew (w.heap.size+1+1) (apartA n a) (.slice fa1 (apartA n a).1.entries.length fc1) (.slice la1 (apartA n a).1.keys.length lc1) (.slice ja1 (apartA n a).1.kids.length jc1) (.slice fa2 (apartA n a).2.2.entries.length fc2) (.slice la2 (apartA n a).2.2.keys.length lc2) (.slice ja2 (apartA n a).2.2.kids.length jc2)):=Lib.hid ⟨(hbx.set10 (.bool (apartA n a).1.leaf) (.slice fa1 (apartA n a).1.entries.length fc1) (.slice la1 (apartA n a).1.keys.length lc1) (.slice ja1 (apartA n a).1.kids.length jc1) (.bool (apartA n a).2.2.leaf) (.slice fa2 (apartA n a).2.2.entries.length fc2) (.slice la2 (apartA n a).2.2.keys.length lc2) (.slice ja2 (apartA n a).2.2.kids.length jc2) (.string (apartA n a).2.1) (.bool true)).drew,(HNA.out.blk hbx mX).ext (Mods.refl _ _).drew,(HNB.out.blk hbx mX).ext (Mods.refl _ _).drew⟩
          have HRS:Hid (Ext w (hv10 (.bool (apartA n a).1.leaf) (.slice fa1 (apartA n a).1.entries.length fc1) (.slice la1 (apartA n a).1.keys.length lc1) (.slice ja1 (apartA n a).1.kids.length jc1) (.bool (apartA n a).2.2.leaf) (.slice fa2 (apartA n a).2.2.entries.length fc2) (.slice la2 (apartA n a).2.2.keys.length lc2) (.slice ja2 (apartA n a).2.2.kids.length jc2) (.string (apartA n a).2.1) (.bool true) w3 (w.heap.size+1+1)).drew∧Blk (hv10 (.bool (apartA n a).1.leaf) (.slice fa1 (apartA n a).1.entries.length fc1) (.slice la1 (apartA n a).1.keys.length lc1) (.slice ja1 (apartA n a).1.kids.length jc1) (.bool (apartA n a).2.2.leaf) (.slice fa2 (apartA n a).2.2.entries.length fc2) (.slice la2 (apartA n a).2.2.keys.length lc2) (.slice ja2 (apartA n a).2.2.kids.length jc2) (.string (apartA n a).2.1) (.bool true) w3 (w.heap.size+1+1)).drew w.heap.size #[.bool true,.slice ea n.entries.length ec,.slice ka n.keys.length kc,.slice ia n.kids.length ic] 26 ∧ Blk (hv10 (.bool (apartA n a).1.leaf) (.slice fa1 (apartA n a).1.entries.length fc1) (.slice la1 (apartA n a).1.keys.length lc1) (.slice ja1 (apartA n a).1.kids.length jc1) (.bool (apartA n a).2.2.leaf) (.slice fa2 (apartA n a).2.2.entries.length fc2) (.slice la2 (apartA n a).2.2.keys.length lc2) (.slice ja2 (apartA n a).2.2.kids.length jc2) (.string (apartA n a).2.1) (.bool true) w3 (w.heap.size+1+1)).drew (w.heap.size+1) halvesZc 31):=Lib.hid ⟨(Mods.set10 HX3.out (.inl (by omega)) (.bool (apartA n a).1.leaf) (.slice fa1 (apartA n a).1.entries.length fc1) (.slice la1 (apartA n a).1.keys.length lc1) (.slice ja1 (apartA n a).1.kids.length jc1) (.bool (apartA n a).2.2.leaf) (.slice fa2 (apartA n a).2.2.entries.length fc2) (.slice la2 (apartA n a).2.2.keys.length lc2) (.slice ja2 (apartA n a).2.2.kids.length jc2) (.string (apartA n a).2.1) (.bool true)).trans (Mods.refl _ _).drew,(HB3.out.mods mX (by omega)).drew,(HR3.out.mods mX (by omega)).drew⟩
          clear mX hbx
          go_roundg m
          case measure=>omega
          case rel=>exact ⟨a+1,a,by omega,by go_num,Lib.hid ⟨.inr ⟨by omega,HPL.out,_,_,_,_,_,_,HBS.out⟩,⟨by omega,HQN.out⟩,HRS.out.1,HRS.out.2.1,HRS.out.2.2⟩⟩
      · have hbs3:=(hbs.ext m23)
        have HBS0:=Lib.hid hbs3
        have HPB:=Lib.hid hpb
        have y0:=hbs3.blk.cell (o:=0) rfl
        have y1:=hbs3.blk.cell (o:=1) rfl
        have y2:=hbs3.blk.cell (o:=2) rfl
        have y3:=hbs3.blk.cell (o:=3) rfl
        have y4:=hbs3.blk.cell (o:=4) rfl
        have y5:=hbs3.blk.cell (o:=5) rfl
        have y6:=hbs3.blk.cell (o:=6) rfl
        have y7:=hbs3.blk.cell (o:=7) rfl
        have y8:=hbs3.blk.cell (o:=8) rfl
        have y9:=hbs3.blk.cell (o:=9) rfl
        obtain ⟨Da,hDa⟩:∃ Da,Da=((weightA (apartA n a).1:Int) - (weightA (apartA n a).2.2:Int)).natAbs:=⟨_,rfl⟩
        obtain ⟨Db,hDb⟩:∃ Db,Db=((weightA (apartA n b).1:Int) - (weightA (apartA n b).2.2:Int)).natAbs:=⟨_,rfl⟩
        have HDA:Hid (Da=unlikeA n a∧Db=unlikeA n b):=Lib.hid ⟨hDa,hDb⟩
        have HA1:=fun W (m:Ext w3.drew W)=>apartO (apartA n a) (base:=w.heap.size) ((HNA0.out.ext hd).ext m) ((HNB0.out.ext hd).ext m) (HOK.out a HPL.out).1 (HOK.out a HPL.out).2.1 (HOK.out a HPL.out).2.2.1 (HOK.out a HPL.out).2.2.2.1 (HOK.out a HPL.out).2.2.2.2
        have HA2:=fun W (m:Ext w3.drew W)=>apartO (apartA n b) (base:=w.heap.size) ((HBS0.out.na.ext hd).ext m) ((HBS0.out.nb.ext hd).ext m) (HOK.out b HPB.out).1 (HOK.out b HPB.out).2.1 (HOK.out b HPB.out).2.2.1 (HOK.out b HPB.out).2.2.2.1 (HOK.out b HPB.out).2.2.2.2
        rw [← hDa] at HA1
        rw [← hDb] at HA2
        have HA1:=Lib.hid HA1
        have HA2:=Lib.hid HA2
        clear hj hpb hbs hbs3 m23 m3 hm2 hA hB hDa hDb
        go_wp2_with fail
        rw [← HW3.out]
        go_region_held3 (fun w'=>w'.cell? ⟨w.heap.size+1+1,0,none⟩=some (.bool (apartA n b).1.leaf)∧w'.cell? ⟨w.heap.size+1+1,1,none⟩=some (e1)∧w'.cell? ⟨w.heap.size+1+1,2,none⟩=some (k1)∧w'.cell? ⟨w.heap.size+1+1,3,none⟩=some (i1)∧w'.cell? ⟨w.heap.size+1+1,4,none⟩=some (.bool (apartA n b).2.2.leaf)∧w'.cell? ⟨w.heap.size+1+1,5,none⟩=some (e2)∧w'.cell? ⟨w.heap.size+1+1,6,none⟩=some (k2)∧w'.cell? ⟨w.heap.size+1+1,7,none⟩=some (i2)∧w'.cell? ⟨w.heap.size+1+1,8,none⟩=some (.string (apartA n b).2.1)∧w'.cell? ⟨w.heap.size+1+1,9,none⟩=some (.bool true)∧w'.cell? ⟨w2.heap.size,0,none⟩=some (.bool (apartA n a).1.leaf)∧w'.cell? ⟨w2.heap.size,1,none⟩=some (.slice fa1 (apartA n a).1.entries.length fc1)∧w'.cell? ⟨w2.heap.size,2,none⟩=some (.slice la1 (apartA n a).1.keys.length lc1)∧w'.cell? ⟨w2.heap.size,3,none⟩=some (.slice ja1 (apartA n a).1.kids.length jc1)∧w'.cell? ⟨w2.heap.size,4,none⟩=some (.bool (apartA n a).2.2.leaf)∧w'.cell? ⟨w2.heap.size,5,none⟩=some (.slice fa2 (apartA n a).2.2.entries.length fc2)∧w'.cell? ⟨w2.heap.size,6,none⟩=some (.slice la2 (apartA n a).2.2.keys.length lc2)∧w'.cell? ⟨w2.heap.size,7,none⟩=some (.slice ja2 (apartA n a).2.2.kids.length jc2)∧w'.cell? ⟨w2.heap.size,8,none⟩=some (.string (apartA n a).2.1)∧w'.cell? ⟨w2.heap.size,9,none⟩=some (.bool true))
          (first | (with_reducible exact ⟨y0,y1,y2,y3,y4,y5,y6,y7,y8,y9,p0,p1,p2,p3,p4,p5,p6,p7,p8,p9⟩) | (with_reducible exact ⟨c0,c1,c2,c3,c4,c5,c6,c7,c8,c9,d0,d1,d2,d3,d4,d5,d6,d7,d8,d9⟩) | (with_reducible exact ⟨g0,g1,g2,g3,g4,g5,g6,g7,g8,g9,h0,h1,h2,h3,h4,h5,h6,h7,h8,h9⟩) | go_keep)
          (first
            | (go_at_call 63;(with_reducible refine (HA1.out _ (Mods.refl _ _)).mono ?_);rintro x4 w4 ⟨rfl,hm4⟩;have c0:=cellE (w:=w3.drew) hm4 y0;have c1:=cellE (w:=w3.drew) hm4 y1;have c2:=cellE (w:=w3.drew) hm4 y2;have c3:=cellE (w:=w3.drew) hm4 y3;have c4:=cellE (w:=w3.drew) hm4 y4;have c5:=cellE (w:=w3.drew) hm4 y5;have c6:=cellE (w:=w3.drew) hm4 y6;have c7:=cellE (w:=w3.drew) hm4 y7;have c8:=cellE (w:=w3.drew) hm4 y8;have c9:=cellE (w:=w3.drew) hm4 y9;have d0:=cellE (w:=w3.drew) hm4 p0;have d1:=cellE (w:=w3.drew) hm4 p1;have d2:=cellE (w:=w3.drew) hm4 p2;have d3:=cellE (w:=w3.drew) hm4 p3;have d4:=cellE (w:=w3.drew) hm4 p4;have d5:=cellE (w:=w3.drew) hm4 p5;have d6:=cellE (w:=w3.drew) hm4 p6;have d7:=cellE (w:=w3.drew) hm4 p7;have d8:=cellE (w:=w3.drew) hm4 p8;have d9:=cellE (w:=w3.drew) hm4 p9)
            | (go_at_call 63;(with_reducible refine (HA2.out _ hm4).mono ?_);rintro x5 w5 ⟨rfl,hm5⟩;have g0:=cellE hm5 c0;have g1:=cellE hm5 c1;have g2:=cellE hm5 c2;have g3:=cellE hm5 c3;have g4:=cellE hm5 c4;have g5:=cellE hm5 c5;have g6:=cellE hm5 c6;have g7:=cellE hm5 c7;have g8:=cellE hm5 c8;have g9:=cellE hm5 c9;have h0:=cellE hm5 d0;have h1:=cellE hm5 d1;have h2:=cellE hm5 d2;have h3:=cellE hm5 d3;have h4:=cellE hm5 d4;have h5:=cellE hm5 d5;have h6:=cellE hm5 d6;have h7:=cellE hm5 d7;have h8:=cellE hm5 d8;have h9:=cellE hm5 d9)
            | fail)
        have h45:=(hd.trans hm4).trans hm5
        have HX3:=Lib.hid (HX0.out.trans h45)
        have HB3:=Lib.hid (HB0.out.ext h45)
        have HR3:=Lib.hid (HR0.out.ext h45)
        by_cases hdz:(Da:Int) < (Db:Int)
        · have HQN:Hid (firstMin (unlikeA n) a (a+1) m=q):=Lib.hid (by
            have h:=HC.out.2.1.2
            rw [firstMin,if_pos (by have:=HDA.out;omega)] at h
            exact h)
          have hbx:=HBS0.out.blk.ext h45
          have xf:=hbx.frozen
          have HNA:=Lib.hid (HNA0.out.ext h45)
          have HNB:=Lib.hid (HNB0.out.ext h45)
          clear hm4 hm5 h45
          go_wp2_with fail
          have mX:Mods (fun k=>k=w.heap.size+1+1) w5 (hv10 (.bool (apartA n a).1.leaf) (.slice fa1 (apartA n a).1.entries.length fc1) (.slice la1 (apartA n a).1.keys.length lc1) (.slice ja1 (apartA n a).1.kids.length jc1) (.bool (apartA n a).2.2.leaf) (.slice fa2 (apartA n a).2.2.entries.length fc2) (.slice la2 (apartA n a).2.2.keys.length lc2) (.slice ja2 (apartA n a).2.2.kids.length jc2) (.string (apartA n a).2.1) (.bool true) w5 (w.heap.size+1+1)):=Mods.set10 (F:=fun k=>k=w.heap.size+1+1) (Mods.refl _ w5) (.inr rfl) (.bool (apartA n a).1.leaf) (.slice fa1 (apartA n a).1.entries.length fc1) (.slice la1 (apartA n a).1.keys.length lc1) (.slice ja1 (apartA n a).1.kids.length jc1) (.bool (apartA n a).2.2.leaf) (.slice fa2 (apartA n a).2.2.entries.length fc2) (.slice la2 (apartA n a).2.2.keys.length lc2) (.slice ja2 (apartA n a).2.2.kids.length jc2) (.string (apartA n a).2.1) (.bool true)
          have HBS:Hid (BestS w (hv10 (.bool (apartA n a).1.leaf) (.slice fa1 (apartA n a).1.entries.length fc1) (.slice la1 (apartA n a).1.keys.length lc1) (.slice ja1 (apartA n a).1.kids.length jc1) (.bool (apartA n a).2.2.leaf) (.slice fa2 (apartA n a).2.2.entries.length fc2) (.slice la2 (apartA n a).2.2.keys.length lc2) (.slice ja2 (apartA n a).2.2.kids.length jc2) (.string (apartA n a).2.1) (.bool true) w5 (w.heap.size+1+1)) (w.heap.size+1+1) (apartA n a) (.slice fa1 (apartA n a).1.entries.length fc1) (.slice la1 (apartA n a).1.keys.length lc1) (.slice ja1 (apartA n a).1.kids.length jc1) (.slice fa2 (apartA n a).2.2.entries.length fc2) (.slice la2 (apartA n a).2.2.keys.length lc2) (.slice ja2 (apartA n a).2.2.kids.length jc2)):=Lib.hid ⟨(hbx.set10 (.bool (apartA n a).1.leaf) (.slice fa1 (apartA n a).1.entries.length fc1) (.slice la1 (apartA n a).1.keys.length lc1) (.slice ja1 (apartA n a).1.kids.length jc1) (.bool (apartA n a).2.2.leaf) (.slice fa2 (apartA n a).2.2.entries.length fc2) (.slice la2 (apartA n a).2.2.keys.length lc2) (.slice ja2 (apartA n a).2.2.kids.length jc2) (.string (apartA n a).2.1) (.bool true)),(HNA.out.blk hbx mX),(HNB.out.blk hbx mX)⟩
          have HRS:Hid (Ext w (hv10 (.bool (apartA n a).1.leaf) (.slice fa1 (apartA n a).1.entries.length fc1) (.slice la1 (apartA n a).1.keys.length lc1) (.slice ja1 (apartA n a).1.kids.length jc1) (.bool (apartA n a).2.2.leaf) (.slice fa2 (apartA n a).2.2.entries.length fc2) (.slice la2 (apartA n a).2.2.keys.length lc2) (.slice ja2 (apartA n a).2.2.kids.length jc2) (.string (apartA n a).2.1) (.bool true) w5 (w.heap.size+1+1))∧Blk (hv10 (.bool (apartA n a).1.leaf) (.slice fa1 (apartA n a).1.entries.length fc1) (.slice la1 (apartA n a).1.keys.length lc1) (.slice ja1 (apartA n a).1.kids.length jc1) (.bool (apartA n a).2.2.leaf) (.slice fa2 (apartA n a).2.2.entries.length fc2) (.slice la2 (apartA n a).2.2.keys.length lc2) (.slice ja2 (apartA n a).2.2.kids.length jc2) (.string (apartA n a).2.1) (.bool true) w5 (w.heap.size+1+1)) w.heap.size #[.bool true,.slice ea n.entries.length ec,.slice ka n.keys.length kc,.slice ia n.kids.length ic] 26 ∧ Blk (hv10 (.bool (apartA n a).1.leaf) (.slice fa1 (apartA n a).1.entries.length fc1) (.slice la1 (apartA n a).1.keys.length lc1) (.slice ja1 (apartA n a).1.kids.length jc1) (.bool (apartA n a).2.2.leaf) (.slice fa2 (apartA n a).2.2.entries.length fc2) (.slice la2 (apartA n a).2.2.keys.length lc2) (.slice ja2 (apartA n a).2.2.kids.length jc2) (.string (apartA n a).2.1) (.bool true) w5 (w.heap.size+1+1)) (w.heap.size+1) halvesZc 31):=Lib.hid ⟨(Mods.set10 HX3.out (.inl (by omega)) (.bool (apartA n a).1.leaf) (.slice fa1 (apartA n a).1.entries.length fc1) (.slice la1 (apartA n a).1.keys.length lc1) (.slice ja1 (apartA n a).1.kids.length jc1) (.bool (apartA n a).2.2.leaf) (.slice fa2 (apartA n a).2.2.entries.length fc2) (.slice la2 (apartA n a).2.2.keys.length lc2) (.slice ja2 (apartA n a).2.2.kids.length jc2) (.string (apartA n a).2.1) (.bool true)),(HB3.out.mods mX (by omega)),(HR3.out.mods mX (by omega))⟩
          clear mX hbx
          go_roundg m
          case measure=>omega
          case rel=>exact ⟨a+1,a,by omega,by go_num,Lib.hid ⟨.inr ⟨by omega,HPL.out,_,_,_,_,_,_,HBS.out⟩,⟨by omega,HQN.out⟩,HRS.out.1,HRS.out.2.1,HRS.out.2.2⟩⟩
        · have HQN:Hid (firstMin (unlikeA n) b (a+1) m=q):=Lib.hid (by
            have h:=HC.out.2.1.2
            rw [firstMin,if_neg (by have:=HDA.out;omega)] at h
            exact h)
          have HBS:=Lib.hid (HBS0.out.ext h45)
          clear hm4 hm5 h45
          go_wp2_with fail
          go_roundg m
          case measure=>omega
          case rel=>exact ⟨a+1,b,by omega,by go_num,Lib.hid ⟨.inr ⟨by omega,HPB.out,_,_,_,_,_,_,HBS.out⟩,⟨by omega,HQN.out⟩,HX3.out,HB3.out,HR3.out⟩⟩
    · have hlt2:¬ (a:Int) < (n.entries.length:Int):=by have:=HT.out;omega
      have hg0:gk=0:=by omega
      have HCE:Hid (CutE n w wr (w.heap.size+1+1)):=Lib.hid (by
        have h:=HC.out.2.1.2
        rw [hg0,firstMin] at h
        rcases HC.out.1 with ⟨h1,h2,h3⟩ | ⟨h1,h2,e1,k1,i1,e2,k2,i2,h3⟩
        · exact .inl ⟨by unfold cutA;rw [if_neg (fun hh=>by have:=hh.2;have:=HMY.out;omega)],h3⟩
        · exact .inr ⟨b,by rw [cutA_some HRT.out (by have:=HMY.out;omega),HFR.out,HMY.out,← HQQ.out,h],e1,k1,i1,e2,k2,i2,h3⟩)
      have HRS:=Lib.hid HC.out.2.2
      clear hg0 HC hlt ham hfa
      go_wp2_with fail
      obtain ⟨wo,hwo⟩:∃ wo:World,wo=wr:=⟨_,rfl⟩
      rw [← hwo] at HCE HRS n3 ⊢
      clear hwo n0 n1 n2
      go_loopg [6] 0 (fun m v wx=>v=.int .i64 2∧wx=wo)
      case atStart=>exact ⟨rfl,rfl⟩
      case round =>
        obtain ⟨rfl,rfl⟩:=hrel
        rcases HCE.out with ⟨hno,hx⟩ | ⟨b,hyes,e1,k1,i1,e2,k2,i2,hbs⟩
        · have HNO:=Lib.hid hno
          clear hno
          have hR:=HRS.out.2.2
          have r0:=hR.cell (o:=0) rfl
          have r1:=hR.cell (o:=1) rfl
          have r2:=hR.cell (o:=2) rfl
          have r3:=hR.cell (o:=3) rfl
          have r4:=hR.cell (o:=4) rfl
          have r5:=hR.cell (o:=5) rfl
          have r6:=hR.cell (o:=6) rfl
          have r7:=hR.cell (o:=7) rfl
          have r8:=hR.cell (o:=8) rfl
          have r9:=hR.cell (o:=9) rfl
          have x0:=hx.cell (o:=0) rfl
          have x1:=hx.cell (o:=1) rfl
          have x2:=hx.cell (o:=2) rfl
          have x3:=hx.cell (o:=3) rfl
          have x4:=hx.cell (o:=4) rfl
          have x5:=hx.cell (o:=5) rfl
          have x6:=hx.cell (o:=6) rfl
          have x7:=hx.cell (o:=7) rfl
          have x8:=hx.cell (o:=8) rfl
          have x9:=hx.cell (o:=9) rfl
          have rf:=hR.frozen
          have HF:=Lib.hid (hR.set10 (.bool false) (.slice none 0 0) (.slice none 0 0) (.slice none 0 0) (.bool false) (.slice none 0 0) (.slice none 0 0) (.slice none 0 0) (.string ⟨#[]⟩) (.bool false))
          have HE:=Lib.hid (Mods.set10 HRS.out.1 (R:=w.heap.size+1) (.inl (Nat.le_succ _)) (.bool false) (.slice none 0 0) (.slice none 0 0) (.slice none 0 0) (.bool false) (.slice none 0 0) (.slice none 0 0) (.slice none 0 0) (.string ⟨#[]⟩) (.bool false))
          clear hR hx
          go_wp2_with fail
          refine bodyPost_ret (results_cell_row rfl _ _ (w.heap.size+1) 31 halvesZc (0,0) _ rfl HF.out Tryz.underlying31 rfl Tryz.halvesSz) rfl ?_
          exact ⟨_,rfl,by rw [HNO.out];rfl,HE.out⟩
        · have HYES:=Lib.hid hyes
          clear hyes
          obtain ⟨fa1,fc1,la1,lc1,ja1,jc1,rfl,rfl,rfl⟩:=hbs.na.slices
          obtain ⟨fa2,fc2,la2,lc2,ja2,jc2,rfl,rfl,rfl⟩:=hbs.nb.slices
          have hR:=HRS.out.2.2
          have r0:=hR.cell (o:=0) rfl
          have r1:=hR.cell (o:=1) rfl
          have r2:=hR.cell (o:=2) rfl
          have r3:=hR.cell (o:=3) rfl
          have r4:=hR.cell (o:=4) rfl
          have r5:=hR.cell (o:=5) rfl
          have r6:=hR.cell (o:=6) rfl
          have r7:=hR.cell (o:=7) rfl
          have r8:=hR.cell (o:=8) rfl
          have r9:=hR.cell (o:=9) rfl
          have x0:=hbs.blk.cell (o:=0) rfl
          have x1:=hbs.blk.cell (o:=1) rfl
          have x2:=hbs.blk.cell (o:=2) rfl
          have x3:=hbs.blk.cell (o:=3) rfl
          have x4:=hbs.blk.cell (o:=4) rfl
          have x5:=hbs.blk.cell (o:=5) rfl
          have x6:=hbs.blk.cell (o:=6) rfl
          have x7:=hbs.blk.cell (o:=7) rfl
          have x8:=hbs.blk.cell (o:=8) rfl
          have x9:=hbs.blk.cell (o:=9) rfl
          have rf:=hR.frozen
          have mR:Mods (fun k=>k=w.heap.size+1) wr (hv10 (.bool (apartA n b).1.leaf) (.slice fa1 (apartA n b).1.entries.length fc1) (.slice la1 (apartA n b).1.keys.length lc1) (.slice ja1 (apartA n b).1.kids.length jc1) (.bool (apartA n b).2.2.leaf) (.slice fa2 (apartA n b).2.2.entries.length fc2) (.slice la2 (apartA n b).2.2.keys.length lc2) (.slice ja2 (apartA n b).2.2.kids.length jc2) (.string (apartA n b).2.1) (.bool true) wr (w.heap.size+1)):=Mods.set10 (F:=fun k=>k=w.heap.size+1) (Mods.refl _ wr) (.inr rfl) (.bool (apartA n b).1.leaf) (.slice fa1 (apartA n b).1.entries.length fc1) (.slice la1 (apartA n b).1.keys.length lc1) (.slice ja1 (apartA n b).1.kids.length jc1) (.bool (apartA n b).2.2.leaf) (.slice fa2 (apartA n b).2.2.entries.length fc2) (.slice la2 (apartA n b).2.2.keys.length lc2) (.slice ja2 (apartA n b).2.2.kids.length jc2) (.string (apartA n b).2.1) (.bool true)
          have HF:=Lib.hid (hR.set10 (.bool (apartA n b).1.leaf) (.slice fa1 (apartA n b).1.entries.length fc1) (.slice la1 (apartA n b).1.keys.length lc1) (.slice ja1 (apartA n b).1.kids.length jc1) (.bool (apartA n b).2.2.leaf) (.slice fa2 (apartA n b).2.2.entries.length fc2) (.slice la2 (apartA n b).2.2.keys.length lc2) (.slice ja2 (apartA n b).2.2.kids.length jc2) (.string (apartA n b).2.1) (.bool true))
          have HE:=Lib.hid (Mods.set10 HRS.out.1 (R:=w.heap.size+1) (.inl (Nat.le_succ _)) (.bool (apartA n b).1.leaf) (.slice fa1 (apartA n b).1.entries.length fc1) (.slice la1 (apartA n b).1.keys.length lc1) (.slice ja1 (apartA n b).1.kids.length jc1) (.bool (apartA n b).2.2.leaf) (.slice fa2 (apartA n b).2.2.entries.length fc2) (.slice la2 (apartA n b).2.2.keys.length lc2) (.slice ja2 (apartA n b).2.2.kids.length jc2) (.string (apartA n b).2.1) (.bool true))
          have HN1:=Lib.hid (hbs.na.blk hR mR)
          have HN2:=Lib.hid (hbs.nb.blk hR mR)
          clear hR hbs mR
          go_wp2_with fail
          refine bodyPost_ret (results_cell_row rfl _ _ (w.heap.size+1) 31 #[.bool (apartA n b).1.leaf,.slice fa1 (apartA n b).1.entries.length fc1,.slice la1 (apartA n b).1.keys.length lc1,.slice ja1 (apartA n b).1.kids.length jc1,.bool (apartA n b).2.2.leaf,.slice fa2 (apartA n b).2.2.entries.length fc2,.slice la2 (apartA n b).2.2.keys.length lc2,.slice ja2 (apartA n b).2.2.kids.length jc2,.string (apartA n b).2.1,.bool true] (0,0) _ rfl HF.out Tryz.underlying31 rfl Tryz.halvesSz) rfl ?_
          exact ⟨_,rfl,by rw [HYES.out];exact ⟨_,_,_,_,_,_,rfl,HN1.out,HN2.out⟩,HE.out⟩
set_option maxRecDepth 100000 in
set_option maxHeartbeats 8000000 in
theorem cut13I_any (n:NodeA) (hlf:n.leaf=false) (hr:rightN n=true) (ve vk vi:Value) (hve:Sl F w 4 encE ve n.entries) (hvk:Sl F w 1 encS vk n.keys) (hvi:Sl F w 1 encI vi n.kids) (hln:n.entries.length≤1000∧n.keys.length≤1000∧n.kids.length≤1000) (hbl:(bytesN n).length≤100000) :
    Calls Tryz.prog 14 #[.agg #[.bool false,ve,vk,vi]] w fun e w'=>∃ v,e=.returned v∧CutO w' w.heap.size v (cutA n)∧Ext w w':=by
  obtain ⟨T,hT⟩:∃ T,T=n.kids.length - 1:=⟨_,rfl⟩
  obtain ⟨q,hq⟩:∃ q,q=firstMin (unlikeA n) 2 2 (T - 2):=⟨_,rfl⟩
  have hform:=form_right hr
  have hformU:=hform
  unfold formN at hformU
  rw [if_neg (by rw [hlf];simp)] at hformU
  have HT:=Lib.hid hT
  have HQQ:=Lib.hid hq
  have HRT:=Lib.hid hr
  have HLF:=Lib.hid hlf
  have HLN:=Lib.hid hln
  have HMY:Hid (cutMany n=T - 2):=Lib.hid (by unfold cutMany;rw [if_neg (by rw [hlf];simp),hT];omega)
  have HFR:Hid (cutFrom n=2):=Lib.hid (by unfold cutFrom;rw [if_neg (by rw [hlf];simp)])
  have HPN:Hid (∀ a,2≤a→a < T→PlaceN n a):=Lib.hid (fun a h1 h2=>⟨fun h=>(by rw [hlf] at h;cases h),fun _=>⟨h1,by omega⟩⟩)
  have HOK:Hid (∀ a,PlaceN n a→okB (apartA n a).1∧okB (apartA n a).2.2∧(bytesN (apartA n a).1).length≤100000∧(bytesN (apartA n a).2.2).length≤100000∧((apartA n a).1.entries.length≤100000∧(apartA n a).1.keys.length≤100000∧(apartA n a).1.kids.length≤100000∧(apartA n a).2.2.entries.length≤100000∧(apartA n a).2.2.keys.length≤100000∧(apartA n a).2.2.kids.length≤100000)):=Lib.hid (fun a hp=>by
    have h1:=apart_right hr hp
    have h2:=apart_form hform hp
    have h3:=apart_weight (n:=n) (a:=a)
    have h4:=weight_len h2.1
    have h5:=weight_len h2.2
    have h6:=weight_len hform
    exact ⟨h1.1,h1.2,by omega,by omega,apart_len6 a (by omega) (by omega) (by omega)⟩)
  have HKL:=Lib.hid hformU.2
  have HVE:=Lib.hid hve
  have HVK:=Lib.hid hvk
  have HVI:=Lib.hid hvi
  obtain ⟨w0,hw0⟩:∃ w0,w0=((w.alloc (.cells #[.bool false,ve,vk,vi] 26)).alloc (.cells halvesZc 31)).alloc (.cells halvesZc 31):=⟨_,rfl⟩
  have m0:Ext w w0:=by rw [hw0];exact (((Mods.refl _ w).alloc _).alloc _).alloc _
  have HB0:Hid (Blk w0 w.heap.size #[.bool false,ve,vk,vi] 26):=Lib.hid (by rw [hw0];exact ((Blk.new w _ _).alloc _).alloc _)
  have HR0:Hid (Blk w0 (w.heap.size+1) halvesZc 31):=Lib.hid (by rw [hw0];exact Blk.alloc (heap_at (by simp)) _)
  have HX0:Hid (Blk w0 (w.heap.size+1+1) halvesZc 31):=Lib.hid (by rw [hw0];exact heap_at (by simp))
  have HM0:=Lib.hid m0
  have HLC:Hid (∀ W,Ext w W→∀ p,PlaceN n p → Calls Tryz.prog 64 #[.agg #[.bool false,ve,vk,vi],.int .i64 (p:Int)] W fun e w'=>∃ v,e=.returned v∧HalvesO w' W.heap.size v (apartA n p)∧Ext W w'):=Lib.hid (fun W m p hp=>inner13_any (w:=W) n HLF.out _ _ _ (HVK.out.ext m) (HVI.out.ext m) p (hp.inner HLF.out) HKL.out (by have:=HLN.out;omega))
  have hRG:=right07_t (w:=w0) n ve vk vi (hve.ext m0) (hvk.ext m0) (hvi.ext m0) true hr
  rw [hlf] at hRG
  have HRG:=Lib.hid hRG
  obtain ⟨ea,ec,rfl,he1,he2,he3, -⟩:=hve
  obtain ⟨ka,kc,rfl,hk1,hk2,hk3, -⟩:=hvk
  obtain ⟨ia,ic,rfl,hi1,hi2,hi3, -⟩:=hvi
  unfold maxLen at he2 hk2 hi2
  have u1:IntKind.i64.wrap ((n.kids.length:Int) - 1)=(T:Int):=by rw [IntWalk.i64_in _ (by omega)];omega
  have u3:¬ (1:Int) < (n.entries.length:Int):=by rw [hformU.1];simp
  have hTb:T≤1000:=by omega
  have HW0:=Lib.hid hw0
  clear m0 hRG hw0 hT hq hr hlf hln hbl hform hformU
  go_enter Tryz.func14, Tryz.ntmps14
  go_wp2_with fail
  unfold halvesZc at HW0
  rw [← HW0.out]
  refine HRG.out.mono ?_
  rintro e w1 ⟨rfl,hm1⟩
  have HE1:=Lib.hid (HM0.out.trans hm1)
  have HB1:=Lib.hid (HB0.out.ext hm1)
  have HR1:=Lib.hid (HR0.out.ext hm1)
  have HX1:=Lib.hid (HX0.out.ext hm1)
  clear hm1
  go_wp2_with fail
  go_loopg [4] 0 (fun m v wx=>v=.int .i64 1∧wx=w1)
  case atStart=>exact ⟨rfl,rfl⟩
  case round =>
    obtain ⟨rfl,rfl⟩:=hrel
    have n1:=HB1.out.cell (o:=1) (v:=.slice ea n.entries.length ec) rfl
    go_wp2_with fail
    clear n1
    go_loopg [6] (T - 2) (fun m v wr=>∃ (a b:Nat),a+m=2+(T - 2)∧v=.int .i64 (a:Int)∧Hid (CutS n w wr (w.heap.size+1+1) 2 (a - 2) b∧(2≤a∧firstMin (unlikeA n) b a m=q)∧Ext w wr∧Blk wr w.heap.size #[.bool false,.slice ea n.entries.length ec,.slice ka n.keys.length kc,.slice ia n.kids.length ic] 26 ∧ Blk wr (w.heap.size+1) halvesZc 31))
    case atStart=>exact ⟨2,2,by omega,rfl,Lib.hid ⟨.inl ⟨by omega,rfl,HX1.out⟩,⟨Nat.le_refl _,HQQ.out.symm⟩,HE1.out,HB1.out,HR1.out⟩⟩
    case round =>
      obtain ⟨a,b,ham,rfl,HC⟩:=hrel
      have nb:=HC.out.2.2.2.1
      have n0:=nb.cell (o:=0) (v:=.bool false) rfl
      have n1:=nb.cell (o:=1) (v:=.slice ea n.entries.length ec) rfl
      have n2:=nb.cell (o:=2) (v:=.slice ka n.keys.length kc) rfl
      have n3:=nb.cell (o:=3) (v:=.slice ia n.kids.length ic) rfl
      have hfa:=HC.out.2.1.1
      clear nb
      by_cases hlt:a < T
      · have HPL:=Lib.hid (HPN.out a hfa hlt)
        obtain ⟨m,rfl⟩:∃ m,gk=m+1:=⟨gk - 1,by omega⟩
        have HLL:=Lib.hid (HLC.out wr HC.out.2.2.1 a HPL.out)
        have hlt2:(a:Int) < (T:Int):=by have:=HT.out;omega
        go_wp2_with fail
        refine HLL.out.mono ?_
        rintro e w2 ⟨v,rfl,hO,hm2⟩
        obtain ⟨f1,l1,j1,f2,l2,j2,rfl,hA,hB⟩:=hO
        obtain ⟨fa1,fc1,la1,lc1,ja1,jc1,rfl,rfl,rfl⟩:=hA.slices
        obtain ⟨fa2,fc2,la2,lc2,ja2,jc2,rfl,rfl,rfl⟩:=hB.slices
        obtain ⟨w3,hw3⟩:∃ w3,w3=w2.alloc (.cells #[.bool (apartA n a).1.leaf,.slice fa1 (apartA n a).1.entries.length fc1,.slice la1 (apartA n a).1.keys.length lc1,.slice ja1 (apartA n a).1.kids.length jc1,.bool (apartA n a).2.2.leaf,.slice fa2 (apartA n a).2.2.entries.length fc2,.slice la2 (apartA n a).2.2.keys.length lc2,.slice ja2 (apartA n a).2.2.kids.length jc2,.string (apartA n a).2.1,.bool true] 31):=⟨_,rfl⟩
        have m3:Ext w2 w3:=by rw [hw3];exact (Mods.refl _ w2).alloc _
        have m23:=hm2.trans m3
        have hd:=(Mods.refl (fun _=>False) w3).drew
        have hnew:Blk w3 w2.heap.size #[.bool (apartA n a).1.leaf,.slice fa1 (apartA n a).1.entries.length fc1,.slice la1 (apartA n a).1.keys.length lc1,.slice ja1 (apartA n a).1.kids.length jc1,.bool (apartA n a).2.2.leaf,.slice fa2 (apartA n a).2.2.entries.length fc2,.slice la2 (apartA n a).2.2.keys.length lc2,.slice ja2 (apartA n a).2.2.kids.length jc2,.string (apartA n a).2.1,.bool true] 31:=by rw [hw3];exact Blk.new _ _ _
        have HNA0:=Lib.hid ((hA.ext m3).rebase HC.out.2.2.1.size)
        have HNB0:=Lib.hid ((hB.ext m3).rebase HC.out.2.2.1.size)
        have HX0:=Lib.hid (HC.out.2.2.1.trans m23)
        have HB0:=Lib.hid (HC.out.2.2.2.1.ext m23)
        have HR0:=Lib.hid (HC.out.2.2.2.2.ext m23)
        have HW3:=Lib.hid hw3
        have hz3:w.heap.size+1+1 < w2.heap.size:=by
          have h2:=hm2.size
          have h3:=HC.out.1.lt
          omega
        have ne3:¬ w.heap.size+1+1=w2.heap.size:=by omega
        have ne4:¬ w2.heap.size=w.heap.size+1+1:=by omega
        have p0:=hnew.cell (o:=0) rfl
        have p1:=hnew.cell (o:=1) rfl
        have p2:=hnew.cell (o:=2) rfl
        have p3:=hnew.cell (o:=3) rfl
        have p4:=hnew.cell (o:=4) rfl
        have p5:=hnew.cell (o:=5) rfl
        have p6:=hnew.cell (o:=6) rfl
        have p7:=hnew.cell (o:=7) rfl
        have p8:=hnew.cell (o:=8) rfl
        have p9:=hnew.cell (o:=9) rfl
        clear hw3 n0 n1 n2 n3
        rcases HC.out.1 with ⟨hj0,hbf,hbx0⟩ | ⟨hj,hpb,e1,k1,i1,e2,k2,i2,hbs⟩
        · have hbx:=hbx0.ext m23
          have HQN:Hid (firstMin (unlikeA n) a (a+1) m=q):=Lib.hid (by
            have h:=HC.out.2.1.2
            have e:b=a:=by omega
            rw [e,firstMin_same] at h;exact h)
          have x9:=hbx.cell (o:=9) (v:=.bool false) rfl
          have x0:=hbx.cell (o:=0) rfl
          have x1:=hbx.cell (o:=1) rfl
          have x2:=hbx.cell (o:=2) rfl
          have x3:=hbx.cell (o:=3) rfl
          have x4:=hbx.cell (o:=4) rfl
          have x5:=hbx.cell (o:=5) rfl
          have x6:=hbx.cell (o:=6) rfl
          have x7:=hbx.cell (o:=7) rfl
          have x8:=hbx.cell (o:=8) rfl
          have xf:=hbx.frozen
          have HNA:=HNA0
          have HNB:=HNB0
          have HX3:=HX0
          have HB3:=HB0
          have HR3:=HR0
          clear hj0 hbf hbx0 m23 m3 hm2 hA hB
          go_wp2_with fail
          rw [← HW3.out]
          refine wp_region_held_drew (S := fun w' => w'.cell? ⟨w.heap.size + 1 + 1, 9, none⟩ = some (.bool false)) (by kernel_rfl) (by first | exact x9 | go_keep) (fun hHeld => ?_)
          refine wpAnyH_take (i := 0) (oi := { dst := some 45, op := _, type := _, pos := _, after := _, guard := _ }) (v := ?_) rfl (by kernel_rfl) (by kernel_rfl) (by kernel_rfl) (fun _ _ _ h => h) (Or.inl ⟨by rfl, ?_⟩) (by assumption) ?_
          rotate_left
          · intro w hSw; (try dsimp only at hSw); go_simp; (try (with_reducible rfl))
          rotate_left
          try simp only [Act.put, List.setIfInBounds_toArray, List.set_cons_zero, List.set_cons_succ]
          refine wpAnyH_take (i := 1) (oi := { dst := some 46, op := _, type := _, pos := _, after := _, guard := _ }) (v := ?_) rfl (by kernel_rfl) (by kernel_rfl) (by kernel_rfl) (fun _ _ _ h => h) (Or.inl ⟨by rfl, ?_⟩) (by assumption) ?_
          rotate_left
          · intro w hSw; (try dsimp only at hSw); go_simp; (try (with_reducible rfl))
          rotate_left
          try simp only [Act.put, List.setIfInBounds_toArray, List.set_cons_zero, List.set_cons_succ]
          refine wpAnyH_take (i := 2) (oi := { dst := some 47, op := _, type := _, pos := _, after := _, guard := _ }) (v := ?_) rfl (by kernel_rfl) (by kernel_rfl) (by kernel_rfl) (fun _ _ _ h => h) (Or.inl ⟨by rfl, ?_⟩) (by assumption) ?_
          rotate_left
          · intro w hSw; (try dsimp only at hSw); go_simp; (try (with_reducible rfl))
          rotate_left
          try simp only [Act.put, List.setIfInBounds_toArray, List.set_cons_zero, List.set_cons_succ]
          refine wpAnyH_take (i := 3) (oi := { dst := some 48, op := _, type := _, pos := _, after := _, guard := _ }) (v := ?_) rfl (by kernel_rfl) (by kernel_rfl) (by kernel_rfl) (fun _ _ _ h => h) (Or.inl ⟨by rfl, ?_⟩) (by assumption) ?_
          rotate_left
          · intro w hSw; (try dsimp only at hSw); go_simp; (try (with_reducible rfl))
          rotate_left
          try simp only [Act.put, List.setIfInBounds_toArray, List.set_cons_zero, List.set_cons_succ]
          refine wpAnyH_take (i := 4) (oi := { dst := some 49, op := _, type := _, pos := _, after := _, guard := _ }) (v := undef) rfl (by kernel_rfl) (by kernel_rfl) (by kernel_rfl) (fun _ _ _ h => h) (Or.inr ⟨by rfl, rfl⟩) (by assumption) ?_
          try simp only [Act.put, List.setIfInBounds_toArray, List.set_cons_zero, List.set_cons_succ]
          refine wpAnyH_take (i := 5) (oi := { dst := some 50, op := _, type := _, pos := _, after := _, guard := _ }) (v := undef) rfl (by kernel_rfl) (by kernel_rfl) (by kernel_rfl) (fun _ _ _ h => h) (Or.inr ⟨by rfl, rfl⟩) (by assumption) ?_
          try simp only [Act.put, List.setIfInBounds_toArray, List.set_cons_zero, List.set_cons_succ]
          refine wpAnyH_take (i := 6) (oi := { dst := some 51, op := _, type := _, pos := _, after := _, guard := _ }) (v := undef) rfl (by kernel_rfl) (by kernel_rfl) (by kernel_rfl) (fun _ _ _ h => h) (Or.inr ⟨by rfl, rfl⟩) (by assumption) ?_
          try simp only [Act.put, List.setIfInBounds_toArray, List.set_cons_zero, List.set_cons_succ]
          refine wpAnyH_take (i := 7) (oi := { dst := some 52, op := _, type := _, pos := _, after := _, guard := _ }) (v := undef) rfl (by kernel_rfl) (by kernel_rfl) (by kernel_rfl) (fun _ _ _ h => h) (Or.inr ⟨by rfl, rfl⟩) (by assumption) ?_
          try simp only [Act.put, List.setIfInBounds_toArray, List.set_cons_zero, List.set_cons_succ]
          refine wpAnyH_take (i := 8) (oi := { dst := some 53, op := _, type := _, pos := _, after := _, guard := _ }) (v := undef) rfl (by kernel_rfl) (by kernel_rfl) (by kernel_rfl) (fun _ _ _ h => h) (Or.inr ⟨by rfl, rfl⟩) (by assumption) ?_
          try simp only [Act.put, List.setIfInBounds_toArray, List.set_cons_zero, List.set_cons_succ]
          refine wpAnyH_take (i := 9) (oi := { dst := some 54, op := _, type := _, pos := _, after := _, guard := _ }) (v := ?_) rfl (by kernel_rfl) (by kernel_rfl) (by kernel_rfl) (fun _ _ _ h => h) (Or.inl ⟨by rfl, ?_⟩) (by assumption) ?_
          rotate_left
          · intro w hSw; (try dsimp only at hSw); go_simp; (try (with_reducible rfl))
          rotate_left
          try simp only [Act.put, List.setIfInBounds_toArray, List.set_cons_zero, List.set_cons_succ]
          refine wpAnyH_done (by kernel_rfl) ?_ _
          all_goals
            go_wp2_with fail
            have mX:Mods (fun k=>k=w.heap.size+1+1) w3 (hv10 (.bool (apartA n a).1.leaf) (.slice fa1 (apartA n a).1.entries.length fc1) (.slice la1 (apartA n a).1.keys.length lc1) (.slice ja1 (apartA n a).1.kids.length jc1) (.bool (apartA n a).2.2.leaf) (.slice fa2 (apartA n a).2.2.entries.length fc2) (.slice la2 (apartA n a).2.2.keys.length lc2) (.slice ja2 (apartA n a).2.2.kids.length jc2) (.string (apartA n a).2.1) (.bool true) w3 (w.heap.size+1+1)):=Mods.set10 (F:=fun k=>k=w.heap.size+1+1) (Mods.refl _ w3) (.inr rfl) (.bool (apartA n a).1.leaf) (.slice fa1 (apartA n a).1.entries.length fc1) (.slice la1 (apartA n a).1.keys.length lc1) (.slice ja1 (apartA n a).1.kids.length jc1) (.bool (apartA n a).2.2.leaf) (.slice fa2 (apartA n a).2.2.entries.length fc2) (.slice la2 (apartA n a).2.2.keys.length lc2) (.slice ja2 (apartA n a).2.2.kids.length jc2) (.string (apartA n a).2.1) (.bool true)
            have HBS:Hid (BestS w (hv10 (.bool (apartA n a).1.leaf) (.slice fa1 (apartA n a).1.entries.length fc1) (.slice la1 (apartA n a).1.keys.length lc1) (.slice ja1 (apartA n a).1.kids.length jc1) (.bool (apartA n a).2.2.leaf) (.slice fa2 (apartA n a).2.2.entries.length fc2) (.slice la2 (apartA n a).2.2.keys.length lc2) (.slice ja2 (apartA n a).2.2.kids.length jc2) (.string (apartA n a).2.1) (.bool true) w3 (w.heap.size+1+1)).drew (w.heap.size+1+1) (apartA n a) (.slice fa1 (apartA n a).1.entries.length fc1) (.slice la1 (apartA n a).1.keys.length lc1) (.slice ja1 (apartA n a).1.kids.length jc1) (.slice fa2 (apartA n a).2.2.entries.length fc2) (.slice la2 (apartA n a).2.2.keys.length lc2) (.slice ja2 (apartA n a).2.2.kids.length jc2)):=Lib.hid ⟨(hbx.set10 (.bool (apartA n a).1.leaf) (.slice fa1 (apartA n a).1.entries.length fc1) (.slice la1 (apartA n a).1.keys.length lc1) (.slice ja1 (apartA n a).1.kids.length jc1) (.bool (apartA n a).2.2.leaf) (.slice fa2 (apartA n a).2.2.entries.length fc2) (.slice la2 (apartA n a).2.2.keys.length lc2) (.slice ja2 (apartA n a).2.2.kids.length jc2) (.string (apartA n a).2.1) (.bool true)).drew,(HNA.out.blk hbx mX).ext (Mods.refl _ _).drew,(HNB.out.blk hbx mX).ext (Mods.refl _ _).drew⟩
            have HRS:Hid (Ext w (hv10 (.bool (apartA n a).1.leaf) (.slice fa1 (apartA n a).1.entries.length fc1) (.slice la1 (apartA n a).1.keys.length lc1) (.slice ja1 (apartA n a).1.kids.length jc1) (.bool (apartA n a).2.2.leaf) (.slice fa2 (apartA n a).2.2.entries.length fc2) (.slice la2 (apartA n a).2.2.keys.length lc2) (.slice ja2 (apartA n a).2.2.kids.length jc2) (.string (apartA n a).2.1) (.bool true) w3 (w.heap.size+1+1)).drew∧Blk (hv10 (.bool (apartA n a).1.leaf) (.slice fa1 (apartA n a).1.entries.length fc1) (.slice la1 (apartA n a).1.keys.length lc1) (.slice ja1 (apartA n a).1.kids.length jc1) (.bool (apartA n a).2.2.leaf) (.slice fa2 (apartA n a).2.2.entries.length fc2) (.slice la2 (apartA n a).2.2.keys.length lc2) (.slice ja2 (apartA n a).2.2.kids.length jc2) (.string (apartA n a).2.1) (.bool true) w3 (w.heap.size+1+1)).drew w.heap.size #[.bool false,.slice ea n.entries.length ec,.slice ka n.keys.length kc,.slice ia n.kids.length ic] 26 ∧ Blk (hv10 (.bool (apartA n a).1.leaf) (.slice fa1 (apartA n a).1.entries.length fc1) (.slice la1 (apartA n a).1.keys.length lc1) (.slice ja1 (apartA n a).1.kids.length jc1) (.bool (apartA n a).2.2.leaf) (.slice fa2 (apartA n a).2.2.entries.length fc2) (.slice la2 (apartA n a).2.2.keys.length lc2) (.slice ja2 (apartA n a).2.2.kids.length jc2) (.string (apartA n a).2.1) (.bool true) w3 (w.heap.size+1+1)).drew (w.heap.size+1) halvesZc 31):=Lib.hid ⟨(Mods.set10 HX3.out (.inl (by omega)) (.bool (apartA n a).1.leaf) (.slice fa1 (apartA n a).1.entries.length fc1) (.slice la1 (apartA n a).1.keys.length lc1) (.slice ja1 (apartA n a).1.kids.length jc1) (.bool (apartA n a).2.2.leaf) (.slice fa2 (apartA n a).2.2.entries.length fc2) (.slice la2 (apartA n a).2.2.keys.length lc2) (.slice ja2 (apartA n a).2.2.kids.length jc2) (.string (apartA n a).2.1) (.bool true)).trans (Mods.refl _ _).drew,(HB3.out.mods mX (by omega)).drew,(HR3.out.mods mX (by omega)).drew⟩
            clear mX hbx
            go_roundg m
            case measure=>omega
            case rel=>exact ⟨a+1,a,by omega,by go_num,Lib.hid ⟨.inr ⟨by omega,HPL.out,_,_,_,_,_,_,HBS.out⟩,⟨by omega,HQN.out⟩,HRS.out.1,HRS.out.2.1,HRS.out.2.2⟩⟩
        · have hbs3:=(hbs.ext m23)
          have HBS0:=Lib.hid hbs3
          have HPB:=Lib.hid hpb
          have y0:=hbs3.blk.cell (o:=0) rfl
          have y1:=hbs3.blk.cell (o:=1) rfl
          have y2:=hbs3.blk.cell (o:=2) rfl
          have y3:=hbs3.blk.cell (o:=3) rfl
          have y4:=hbs3.blk.cell (o:=4) rfl
          have y5:=hbs3.blk.cell (o:=5) rfl
          have y6:=hbs3.blk.cell (o:=6) rfl
          have y7:=hbs3.blk.cell (o:=7) rfl
          have y8:=hbs3.blk.cell (o:=8) rfl
          have y9:=hbs3.blk.cell (o:=9) rfl
          obtain ⟨Da,hDa⟩:∃ Da,Da=((weightA (apartA n a).1:Int) - (weightA (apartA n a).2.2:Int)).natAbs:=⟨_,rfl⟩
          obtain ⟨Db,hDb⟩:∃ Db,Db=((weightA (apartA n b).1:Int) - (weightA (apartA n b).2.2:Int)).natAbs:=⟨_,rfl⟩
          have HDA:Hid (Da=unlikeA n a∧Db=unlikeA n b):=Lib.hid ⟨hDa,hDb⟩
          have HA1:=fun W (m:Ext w3.drew W)=>apartO (apartA n a) (base:=w.heap.size) ((HNA0.out.ext hd).ext m) ((HNB0.out.ext hd).ext m) (HOK.out a HPL.out).1 (HOK.out a HPL.out).2.1 (HOK.out a HPL.out).2.2.1 (HOK.out a HPL.out).2.2.2.1 (HOK.out a HPL.out).2.2.2.2
          have HA2:=fun W (m:Ext w3.drew W)=>apartO (apartA n b) (base:=w.heap.size) ((HBS0.out.na.ext hd).ext m) ((HBS0.out.nb.ext hd).ext m) (HOK.out b HPB.out).1 (HOK.out b HPB.out).2.1 (HOK.out b HPB.out).2.2.1 (HOK.out b HPB.out).2.2.2.1 (HOK.out b HPB.out).2.2.2.2
          rw [← hDa] at HA1
          rw [← hDb] at HA2
          have HA1:=Lib.hid HA1
          have HA2:=Lib.hid HA2
          clear hj hpb hbs hbs3 m23 m3 hm2 hA hB hDa hDb
          go_wp2_with fail
          rw [← HW3.out]
          go_region_held3 (fun w'=>w'.cell? ⟨w.heap.size+1+1,0,none⟩=some (.bool (apartA n b).1.leaf)∧w'.cell? ⟨w.heap.size+1+1,1,none⟩=some (e1)∧w'.cell? ⟨w.heap.size+1+1,2,none⟩=some (k1)∧w'.cell? ⟨w.heap.size+1+1,3,none⟩=some (i1)∧w'.cell? ⟨w.heap.size+1+1,4,none⟩=some (.bool (apartA n b).2.2.leaf)∧w'.cell? ⟨w.heap.size+1+1,5,none⟩=some (e2)∧w'.cell? ⟨w.heap.size+1+1,6,none⟩=some (k2)∧w'.cell? ⟨w.heap.size+1+1,7,none⟩=some (i2)∧w'.cell? ⟨w.heap.size+1+1,8,none⟩=some (.string (apartA n b).2.1)∧w'.cell? ⟨w.heap.size+1+1,9,none⟩=some (.bool true)∧w'.cell? ⟨w2.heap.size,0,none⟩=some (.bool (apartA n a).1.leaf)∧w'.cell? ⟨w2.heap.size,1,none⟩=some (.slice fa1 (apartA n a).1.entries.length fc1)∧w'.cell? ⟨w2.heap.size,2,none⟩=some (.slice la1 (apartA n a).1.keys.length lc1)∧w'.cell? ⟨w2.heap.size,3,none⟩=some (.slice ja1 (apartA n a).1.kids.length jc1)∧w'.cell? ⟨w2.heap.size,4,none⟩=some (.bool (apartA n a).2.2.leaf)∧w'.cell? ⟨w2.heap.size,5,none⟩=some (.slice fa2 (apartA n a).2.2.entries.length fc2)∧w'.cell? ⟨w2.heap.size,6,none⟩=some (.slice la2 (apartA n a).2.2.keys.length lc2)∧w'.cell? ⟨w2.heap.size,7,none⟩=some (.slice ja2 (apartA n a).2.2.kids.length jc2)∧w'.cell? ⟨w2.heap.size,8,none⟩=some (.string (apartA n a).2.1)∧w'.cell? ⟨w2.heap.size,9,none⟩=some (.bool true))
            (first | (with_reducible exact ⟨y0,y1,y2,y3,y4,y5,y6,y7,y8,y9,p0,p1,p2,p3,p4,p5,p6,p7,p8,p9⟩) | (with_reducible exact ⟨c0,c1,c2,c3,c4,c5,c6,c7,c8,c9,d0,d1,d2,d3,d4,d5,d6,d7,d8,d9⟩) | (with_reducible exact ⟨g0,g1,g2,g3,g4,g5,g6,g7,g8,g9,h0,h1,h2,h3,h4,h5,h6,h7,h8,h9⟩) | go_keep)
            (first
              | (go_at_call 63;(with_reducible refine (HA1.out _ (Mods.refl _ _)).mono ?_);rintro x4 w4 ⟨rfl,hm4⟩;have c0:=cellE (w:=w3.drew) hm4 y0;have c1:=cellE (w:=w3.drew) hm4 y1;have c2:=cellE (w:=w3.drew) hm4 y2;have c3:=cellE (w:=w3.drew) hm4 y3;have c4:=cellE (w:=w3.drew) hm4 y4;have c5:=cellE (w:=w3.drew) hm4 y5;have c6:=cellE (w:=w3.drew) hm4 y6;have c7:=cellE (w:=w3.drew) hm4 y7;have c8:=cellE (w:=w3.drew) hm4 y8;have c9:=cellE (w:=w3.drew) hm4 y9;have d0:=cellE (w:=w3.drew) hm4 p0;have d1:=cellE (w:=w3.drew) hm4 p1;have d2:=cellE (w:=w3.drew) hm4 p2;have d3:=cellE (w:=w3.drew) hm4 p3;have d4:=cellE (w:=w3.drew) hm4 p4;have d5:=cellE (w:=w3.drew) hm4 p5;have d6:=cellE (w:=w3.drew) hm4 p6;have d7:=cellE (w:=w3.drew) hm4 p7;have d8:=cellE (w:=w3.drew) hm4 p8;have d9:=cellE (w:=w3.drew) hm4 p9)
              | (go_at_call 63;(with_reducible refine (HA2.out _ hm4).mono ?_);rintro x5 w5 ⟨rfl,hm5⟩;have g0:=cellE hm5 c0;have g1:=cellE hm5 c1;have g2:=cellE hm5 c2;have g3:=cellE hm5 c3;have g4:=cellE hm5 c4;have g5:=cellE hm5 c5;have g6:=cellE hm5 c6;have g7:=cellE hm5 c7;have g8:=cellE hm5 c8;have g9:=cellE hm5 c9;have h0:=cellE hm5 d0;have h1:=cellE hm5 d1;have h2:=cellE hm5 d2;have h3:=cellE hm5 d3;have h4:=cellE hm5 d4;have h5:=cellE hm5 d5;have h6:=cellE hm5 d6;have h7:=cellE hm5 d7;have h8:=cellE hm5 d8;have h9:=cellE hm5 d9)
              | fail)
          have h45:=(hd.trans hm4).trans hm5
          have HX3:=Lib.hid (HX0.out.trans h45)
          have HB3:=Lib.hid (HB0.out.ext h45)
          have HR3:=Lib.hid (HR0.out.ext h45)
          by_cases hdz:(Da:Int) < (Db:Int)
          · have HQN:Hid (firstMin (unlikeA n) a (a+1) m=q):=Lib.hid (by
              have h:=HC.out.2.1.2
              rw [firstMin,if_pos (by have:=HDA.out;omega)] at h
              exact h)
            have hbx:=HBS0.out.blk.ext h45
            have xf:=hbx.frozen
            have HNA:=Lib.hid (HNA0.out.ext h45)
            have HNB:=Lib.hid (HNB0.out.ext h45)
            clear hm4 hm5 h45
            go_wp2_with fail
            have mX:Mods (fun k=>k=w.heap.size+1+1) w5 (hv10 (.bool (apartA n a).1.leaf) (.slice fa1 (apartA n a).1.entries.length fc1) (.slice la1 (apartA n a).1.keys.length lc1) (.slice ja1 (apartA n a).1.kids.length jc1) (.bool (apartA n a).2.2.leaf) (.slice fa2 (apartA n a).2.2.entries.length fc2) (.slice la2 (apartA n a).2.2.keys.length lc2) (.slice ja2 (apartA n a).2.2.kids.length jc2) (.string (apartA n a).2.1) (.bool true) w5 (w.heap.size+1+1)):=Mods.set10 (F:=fun k=>k=w.heap.size+1+1) (Mods.refl _ w5) (.inr rfl) (.bool (apartA n a).1.leaf) (.slice fa1 (apartA n a).1.entries.length fc1) (.slice la1 (apartA n a).1.keys.length lc1) (.slice ja1 (apartA n a).1.kids.length jc1) (.bool (apartA n a).2.2.leaf) (.slice fa2 (apartA n a).2.2.entries.length fc2) (.slice la2 (apartA n a).2.2.keys.length lc2) (.slice ja2 (apartA n a).2.2.kids.length jc2) (.string (apartA n a).2.1) (.bool true)
            have HBS:Hid (BestS w (hv10 (.bool (apartA n a).1.leaf) (.slice fa1 (apartA n a).1.entries.length fc1) (.slice la1 (apartA n a).1.keys.length lc1) (.slice ja1 (apartA n a).1.kids.length jc1) (.bool (apartA n a).2.2.leaf) (.slice fa2 (apartA n a).2.2.entries.length fc2) (.slice la2 (apartA n a).2.2.keys.length lc2) (.slice ja2 (apartA n a).2.2.kids.length jc2) (.string (apartA n a).2.1) (.bool true) w5 (w.heap.size+1+1)) (w.heap.size+1+1) (apartA n a) (.slice fa1 (apartA n a).1.entries.length fc1) (.slice la1 (apartA n a).1.keys.length lc1) (.slice ja1 (apartA n a).1.kids.length jc1) (.slice fa2 (apartA n a).2.2.entries.length fc2) (.slice la2 (apartA n a).2.2.keys.length lc2) (.slice ja2 (apartA n a).2.2.kids.length jc2)):=Lib.hid ⟨(hbx.set10 (.bool (apartA n a).1.leaf) (.slice fa1 (apartA n a).1.entries.length fc1) (.slice la1 (apartA n a).1.keys.length lc1) (.slice ja1 (apartA n a).1.kids.length jc1) (.bool (apartA n a).2.2.leaf) (.slice fa2 (apartA n a).2.2.entries.length fc2) (.slice la2 (apartA n a).2.2.keys.length lc2) (.slice ja2 (apartA n a).2.2.kids.length jc2) (.string (apartA n a).2.1) (.bool true)),(HNA.out.blk hbx mX),(HNB.out.blk hbx mX)⟩
            have HRS:Hid (Ext w (hv10 (.bool (apartA n a).1.leaf) (.slice fa1 (apartA n a).1.entries.length fc1) (.slice la1 (apartA n a).1.keys.length lc1) (.slice ja1 (apartA n a).1.kids.length jc1) (.bool (apartA n a).2.2.leaf) (.slice fa2 (apartA n a).2.2.entries.length fc2) (.slice la2 (apartA n a).2.2.keys.length lc2) (.slice ja2 (apartA n a).2.2.kids.length jc2) (.string (apartA n a).2.1) (.bool true) w5 (w.heap.size+1+1))∧Blk (hv10 (.bool (apartA n a).1.leaf) (.slice fa1 (apartA n a).1.entries.length fc1) (.slice la1 (apartA n a).1.keys.length lc1) (.slice ja1 (apartA n a).1.kids.length jc1) (.bool (apartA n a).2.2.leaf) (.slice fa2 (apartA n a).2.2.entries.length fc2) (.slice la2 (apartA n a).2.2.keys.length lc2) (.slice ja2 (apartA n a).2.2.kids.length jc2) (.string (apartA n a).2.1) (.bool true) w5 (w.heap.size+1+1)) w.heap.size #[.bool false,.slice ea n.entries.length ec,.slice ka n.keys.length kc,.slice ia n.kids.length ic] 26 ∧ Blk (hv10 (.bool (apartA n a).1.leaf) (.slice fa1 (apartA n a).1.entries.length fc1) (.slice la1 (apartA n a).1.keys.length lc1) (.slice ja1 (apartA n a).1.kids.length jc1) (.bool (apartA n a).2.2.leaf) (.slice fa2 (apartA n a).2.2.entries.length fc2) (.slice la2 (apartA n a).2.2.keys.length lc2) (.slice ja2 (apartA n a).2.2.kids.length jc2) (.string (apartA n a).2.1) (.bool true) w5 (w.heap.size+1+1)) (w.heap.size+1) halvesZc 31):=Lib.hid ⟨(Mods.set10 HX3.out (.inl (by omega)) (.bool (apartA n a).1.leaf) (.slice fa1 (apartA n a).1.entries.length fc1) (.slice la1 (apartA n a).1.keys.length lc1) (.slice ja1 (apartA n a).1.kids.length jc1) (.bool (apartA n a).2.2.leaf) (.slice fa2 (apartA n a).2.2.entries.length fc2) (.slice la2 (apartA n a).2.2.keys.length lc2) (.slice ja2 (apartA n a).2.2.kids.length jc2) (.string (apartA n a).2.1) (.bool true)),(HB3.out.mods mX (by omega)),(HR3.out.mods mX (by omega))⟩
            clear mX hbx
            go_roundg m
            case measure=>omega
            case rel=>exact ⟨a+1,a,by omega,by go_num,Lib.hid ⟨.inr ⟨by omega,HPL.out,_,_,_,_,_,_,HBS.out⟩,⟨by omega,HQN.out⟩,HRS.out.1,HRS.out.2.1,HRS.out.2.2⟩⟩
          · have HQN:Hid (firstMin (unlikeA n) b (a+1) m=q):=Lib.hid (by
              have h:=HC.out.2.1.2
              rw [firstMin,if_neg (by have:=HDA.out;omega)] at h
              exact h)
            have HBS:=Lib.hid (HBS0.out.ext h45)
            clear hm4 hm5 h45
            go_wp2_with fail
            go_roundg m
            case measure=>omega
            case rel=>exact ⟨a+1,b,by omega,by go_num,Lib.hid ⟨.inr ⟨by omega,HPB.out,_,_,_,_,_,_,HBS.out⟩,⟨by omega,HQN.out⟩,HX3.out,HB3.out,HR3.out⟩⟩
      · have hlt2:¬ (a:Int) < (T:Int):=by have:=HT.out;omega
        have hg0:gk=0:=by omega
        have HCE:Hid (CutE n w wr (w.heap.size+1+1)):=Lib.hid (by
          have h:=HC.out.2.1.2
          rw [hg0,firstMin] at h
          rcases HC.out.1 with ⟨h1,h2,h3⟩ | ⟨h1,h2,e1,k1,i1,e2,k2,i2,h3⟩
          · exact .inl ⟨by unfold cutA;rw [if_neg (fun hh=>by have:=hh.2;have:=HMY.out;omega)],h3⟩
          · exact .inr ⟨b,by rw [cutA_some HRT.out (by have:=HMY.out;omega),HFR.out,HMY.out,← HQQ.out,h],e1,k1,i1,e2,k2,i2,h3⟩)
        have HRS:=Lib.hid HC.out.2.2
        clear hg0 HC hlt ham hfa
        rcases HCE.out with ⟨hno,hx⟩ | ⟨b,hyes,e1,k1,i1,e2,k2,i2,hbs⟩
        · have HNO:=Lib.hid hno
          clear hno
          have hR:=HRS.out.2.2
          have r0:=hR.cell (o:=0) rfl
          have r1:=hR.cell (o:=1) rfl
          have r2:=hR.cell (o:=2) rfl
          have r3:=hR.cell (o:=3) rfl
          have r4:=hR.cell (o:=4) rfl
          have r5:=hR.cell (o:=5) rfl
          have r6:=hR.cell (o:=6) rfl
          have r7:=hR.cell (o:=7) rfl
          have r8:=hR.cell (o:=8) rfl
          have r9:=hR.cell (o:=9) rfl
          have x0:=hx.cell (o:=0) rfl
          have x1:=hx.cell (o:=1) rfl
          have x2:=hx.cell (o:=2) rfl
          have x3:=hx.cell (o:=3) rfl
          have x4:=hx.cell (o:=4) rfl
          have x5:=hx.cell (o:=5) rfl
          have x6:=hx.cell (o:=6) rfl
          have x7:=hx.cell (o:=7) rfl
          have x8:=hx.cell (o:=8) rfl
          have x9:=hx.cell (o:=9) rfl
          have rf:=hR.frozen
          have HF:=Lib.hid (hR.set10 (.bool false) (.slice none 0 0) (.slice none 0 0) (.slice none 0 0) (.bool false) (.slice none 0 0) (.slice none 0 0) (.slice none 0 0) (.string ⟨#[]⟩) (.bool false))
          have HE:=Lib.hid (Mods.set10 HRS.out.1 (R:=w.heap.size+1) (.inl (Nat.le_succ _)) (.bool false) (.slice none 0 0) (.slice none 0 0) (.slice none 0 0) (.bool false) (.slice none 0 0) (.slice none 0 0) (.slice none 0 0) (.string ⟨#[]⟩) (.bool false))
          clear hR hx
          go_wp2_with fail
          refine bodyPost_ret (results_cell_row rfl _ _ (w.heap.size+1) 31 halvesZc (0,0) _ rfl HF.out Tryz.underlying31 rfl Tryz.halvesSz) rfl ?_
          exact ⟨_,rfl,by rw [HNO.out];rfl,HE.out⟩
        · have HYES:=Lib.hid hyes
          clear hyes
          obtain ⟨fa1,fc1,la1,lc1,ja1,jc1,rfl,rfl,rfl⟩:=hbs.na.slices
          obtain ⟨fa2,fc2,la2,lc2,ja2,jc2,rfl,rfl,rfl⟩:=hbs.nb.slices
          have hR:=HRS.out.2.2
          have r0:=hR.cell (o:=0) rfl
          have r1:=hR.cell (o:=1) rfl
          have r2:=hR.cell (o:=2) rfl
          have r3:=hR.cell (o:=3) rfl
          have r4:=hR.cell (o:=4) rfl
          have r5:=hR.cell (o:=5) rfl
          have r6:=hR.cell (o:=6) rfl
          have r7:=hR.cell (o:=7) rfl
          have r8:=hR.cell (o:=8) rfl
          have r9:=hR.cell (o:=9) rfl
          have x0:=hbs.blk.cell (o:=0) rfl
          have x1:=hbs.blk.cell (o:=1) rfl
          have x2:=hbs.blk.cell (o:=2) rfl
          have x3:=hbs.blk.cell (o:=3) rfl
          have x4:=hbs.blk.cell (o:=4) rfl
          have x5:=hbs.blk.cell (o:=5) rfl
          have x6:=hbs.blk.cell (o:=6) rfl
          have x7:=hbs.blk.cell (o:=7) rfl
          have x8:=hbs.blk.cell (o:=8) rfl
          have x9:=hbs.blk.cell (o:=9) rfl
          have rf:=hR.frozen
          have mR:Mods (fun k=>k=w.heap.size+1) wr (hv10 (.bool (apartA n b).1.leaf) (.slice fa1 (apartA n b).1.entries.length fc1) (.slice la1 (apartA n b).1.keys.length lc1) (.slice ja1 (apartA n b).1.kids.length jc1) (.bool (apartA n b).2.2.leaf) (.slice fa2 (apartA n b).2.2.entries.length fc2) (.slice la2 (apartA n b).2.2.keys.length lc2) (.slice ja2 (apartA n b).2.2.kids.length jc2) (.string (apartA n b).2.1) (.bool true) wr (w.heap.size+1)):=Mods.set10 (F:=fun k=>k=w.heap.size+1) (Mods.refl _ wr) (.inr rfl) (.bool (apartA n b).1.leaf) (.slice fa1 (apartA n b).1.entries.length fc1) (.slice la1 (apartA n b).1.keys.length lc1) (.slice ja1 (apartA n b).1.kids.length jc1) (.bool (apartA n b).2.2.leaf) (.slice fa2 (apartA n b).2.2.entries.length fc2) (.slice la2 (apartA n b).2.2.keys.length lc2) (.slice ja2 (apartA n b).2.2.kids.length jc2) (.string (apartA n b).2.1) (.bool true)
          have HF:=Lib.hid (hR.set10 (.bool (apartA n b).1.leaf) (.slice fa1 (apartA n b).1.entries.length fc1) (.slice la1 (apartA n b).1.keys.length lc1) (.slice ja1 (apartA n b).1.kids.length jc1) (.bool (apartA n b).2.2.leaf) (.slice fa2 (apartA n b).2.2.entries.length fc2) (.slice la2 (apartA n b).2.2.keys.length lc2) (.slice ja2 (apartA n b).2.2.kids.length jc2) (.string (apartA n b).2.1) (.bool true))
          have HE:=Lib.hid (Mods.set10 HRS.out.1 (R:=w.heap.size+1) (.inl (Nat.le_succ _)) (.bool (apartA n b).1.leaf) (.slice fa1 (apartA n b).1.entries.length fc1) (.slice la1 (apartA n b).1.keys.length lc1) (.slice ja1 (apartA n b).1.kids.length jc1) (.bool (apartA n b).2.2.leaf) (.slice fa2 (apartA n b).2.2.entries.length fc2) (.slice la2 (apartA n b).2.2.keys.length lc2) (.slice ja2 (apartA n b).2.2.kids.length jc2) (.string (apartA n b).2.1) (.bool true))
          have HN1:=Lib.hid (hbs.na.blk hR mR)
          have HN2:=Lib.hid (hbs.nb.blk hR mR)
          clear hR hbs mR
          go_wp2_with fail
          refine bodyPost_ret (results_cell_row rfl _ _ (w.heap.size+1) 31 #[.bool (apartA n b).1.leaf,.slice fa1 (apartA n b).1.entries.length fc1,.slice la1 (apartA n b).1.keys.length lc1,.slice ja1 (apartA n b).1.kids.length jc1,.bool (apartA n b).2.2.leaf,.slice fa2 (apartA n b).2.2.entries.length fc2,.slice la2 (apartA n b).2.2.keys.length lc2,.slice ja2 (apartA n b).2.2.kids.length jc2,.string (apartA n b).2.1,.bool true] (0,0) _ rfl HF.out Tryz.underlying31 rfl Tryz.halvesSz) rfl ?_
          exact ⟨_,rfl,by rw [HYES.out];exact ⟨_,_,_,_,_,_,rfl,HN1.out,HN2.out⟩,HE.out⟩
end
end Go.Proofs.YtphafjmdhmpkbaaGreatDoor
