/- insert.settle of a node that is cut. | insert.entry of a short value; insert.leaf of a new key with a short value in a node that fits. | insert.entry. -/
import Derived.Test.YtphafjmdhmpkbaaGreatDoorK32
import Derived.Test.YtphafjmdhmpkbaaGreatDoorK21
import Derived.Test.YtphafjmdhmpkbaaGreatDoorK19
namespace Go.Proofs.YtphafjmdhmpkbaaGreatDoor
open Go.RowKit
attribute [local go_sem ↓] Go.wp_at_zero Go.wp_at_succ
theorem cut_few {n A B:NodeA} {k:ByteArray} (h:cutA n=some (A,k,B)) (hf:n.entries.length≤100000∧n.keys.length≤100000∧n.kids.length≤100000):A.entries.length≤100000∧A.keys.length≤100000∧A.kids.length≤100000∧B.entries.length≤100000∧B.keys.length≤100000∧B.kids.length≤100000:=by
  unfold cutA at h
  split at h
  · injection h with h
    unfold apartA at h
    split at h
    · injection h with h1 h2
      injection h2 with h2 h3
      subst h1 h3
      simp only [List.length_take,List.length_drop,List.length_nil]
      omega
    · injection h with h1 h2
      injection h2 with h2 h3
      subst h1 h3
      simp only [List.length_take,List.length_drop,List.length_nil]
      omega
  · cases h
section
variable {P P' F F':Nat→Prop} {ad:Nat→Addr} {w w':World} {c s:Nat} {G:GA} {l:List Nat}
set_option maxRecDepth 100000 in
set_option maxHeartbeats 4000000 in
theorem settleC_any (n:NodeA) (hnf:¬ weightN n≤(G.size:Int) - 24) (hL:Env F ad w) (hP:∀ k,P k→F k) (h:PgR F w P c s G l) (gen old:Nat) (hgen:gen < 18446744073709551616) (ve vk vi:Value) (hve:Sl F w 4 encE ve n.entries) (hvk:Sl F w 1 encS vk n.keys) (hvi:Sl F w 1 encI vi n.kids) (hok:SetOk G l old n) :
    Calls Tryz.prog 123 #[pgV c s gen,.int .i64 (old:Int),.agg #[.bool n.leaf,ve,vk,vi]] w (OutP F P ad w c s G l (settleA G l gen old n)):=by
  have HNF:=Lib.hid hnf
  clear hnf
  obtain ⟨w1,hw1⟩:∃ w1,w1=(((w.alloc (.cells #[.pointer (some ⟨c,0,none⟩),.pointer (some ⟨s,0,none⟩),.int .u64 (gen:Int)] 45)).alloc (.cells #[.bool n.leaf,ve,vk,vi] 26)).alloc (.cells outZc 127)).alloc (.cells outZc 127):=⟨_,rfl⟩
  have m0:Ext w w1:=by rw [hw1];exact ((((Mods.refl _ w).alloc _).alloc _).alloc _).alloc _
  have hz:w1.heap.size=w.heap.size+4:=by rw [hw1];simp
  have hN:Nxt P P F (fun k=>F k∨(w.heap.size≤k∧k < w1.heap.size)) ad w w1:=Nxt.new hL hP (Q:=fun k=>w.heap.size≤k∧k < w1.heap.size) m0 (fun k hk=>hk.1) (fun k hk=>hk.2)
  have HB:=Lib.hid (show VarR (fun k=>F k∨(w.heap.size≤k∧k < w1.heap.size)) P w w1 w.heap.size #[.pointer (some ⟨c,0,none⟩),.pointer (some ⟨s,0,none⟩),.int .u64 (gen:Int)] 45 from ⟨by rw [hw1];exact (((Blk.new w _ _).alloc _).alloc _).alloc _,.inr ⟨by omega,by omega⟩,fun hp=>by have:=h.bd _ hp;omega,by omega⟩)
  have HD:=Lib.hid (show VarR (fun k=>F k∨(w.heap.size≤k∧k < w1.heap.size)) P w w1 (w.heap.size+1) #[.bool n.leaf,ve,vk,vi] 26 from ⟨by rw [hw1];exact ((show Blk ((w.alloc _).alloc (.cells #[.bool n.leaf,ve,vk,vi] 26)) (w.heap.size+1) #[.bool n.leaf,ve,vk,vi] 26 from heap_at (by simp)).alloc _).alloc _,.inr ⟨by omega,by omega⟩,fun hp=>by have:=h.bd _ hp;omega,by omega⟩)
  have HR:=Lib.hid (show VarR (fun k=>F k∨(w.heap.size≤k∧k < w1.heap.size)) P w w1 (w.heap.size+1+1) outZc 127 from ⟨by rw [hw1];exact (show Blk (((w.alloc _).alloc _).alloc (.cells outZc 127)) (w.heap.size+1+1) outZc 127 from heap_at (by simp)).alloc _,.inr ⟨by omega,by omega⟩,fun hp=>by have:=h.bd _ hp;omega,by omega⟩)
  have HO:=Lib.hid (show VarR (fun k=>F k∨(w.heap.size≤k∧k < w1.heap.size)) P w w1 (w.heap.size+1+1+1) outZc 127 from ⟨by rw [hw1];exact heap_at (by simp),.inr ⟨by omega,by omega⟩,fun hp=>by have:=h.bd _ hp;omega,by omega⟩)
  have HG:=Lib.hid (h.plusNew hP (Q:=fun k=>w.heap.size≤k∧k < w1.heap.size) m0 (fun k hk=>hk.1))
  have HVE:=Lib.hid (hN.sl hP hve)
  have HVK:=Lib.hid (hN.sl hP hvk)
  have HVI:=Lib.hid (hN.sl hP hvi)
  have HLIM:=Lib.hid h.lim
  have HN:=Lib.hid hN
  have HOK:=Lib.hid hok
  have HSZ:=Lib.hid (fun W (m:Ext w1 W)=>inSize_any (HG.out.at m) gen)
  have HFT:Hid (∀ W,Ext w1 W → Calls Tryz.prog 16 #[.agg #[.bool n.leaf,ve,vk,vi],.int .i64 (G.size:Int)] W fun e w'=>e=.returned (.bool (decide (weightN n≤(G.size:Int) - 24)))∧Ext W w'):=Lib.hid (fun W m=>fits_any n ve vk vi W (HVE.out.ext m) (HVK.out.ext m) (by have:=hok.wt;omega) _ (by omega) (by have:=HLIM.out;omega))
  obtain ⟨ea,ec,rfl, -, -, -, -⟩:=hve
  obtain ⟨ka,kc,rfl, -, -, -, -⟩:=hvk
  obtain ⟨ia,ic,rfl, -, -, -, -⟩:=hvi
  have b0:=HB.out.blk.cell (o:=0) rfl
  have b1:=HB.out.blk.cell (o:=1) rfl
  have b2:=HB.out.blk.cell (o:=2) rfl
  have n0:=HD.out.blk.cell (o:=0) rfl
  have n1:=HD.out.blk.cell (o:=1) rfl
  have n2:=HD.out.blk.cell (o:=2) rfl
  have n3:=HD.out.blk.cell (o:=3) rfl
  have HW1:=Lib.hid hw1
  clear hL hP h m0 hN hok hw1
  unfold pgV at HSZ ⊢
  go_enter Tryz.func123, Tryz.ntmps123
  go_wp2_with fail
  rw [← HW1.out]
  go_cut [17] (fun v17 wx=>v17=.bool (decide (weightN n≤(G.size:Int) - 24))∧Hid (Ext w1 wx))
  case first =>
    go_region_held3 (fun w'=>w'.cell? ⟨w.heap.size+1,0,none⟩=some (.bool n.leaf)∧w'.cell? ⟨w.heap.size+1,1,none⟩=some (.slice ea n.entries.length ec)∧w'.cell? ⟨w.heap.size+1,2,none⟩=some (.slice ka n.keys.length kc)∧w'.cell? ⟨w.heap.size+1,3,none⟩=some (.slice ia n.kids.length ic) ∧
        w'.cell? ⟨w.heap.size,0,none⟩=some (.pointer (some ⟨c,0,none⟩))∧w'.cell? ⟨w.heap.size,1,none⟩=some (.pointer (some ⟨s,0,none⟩))∧w'.cell? ⟨w.heap.size,2,none⟩=some (.int .u64 (gen:Int)))
      (first | (with_reducible exact ⟨n0,n1,n2,n3,b0,b1,b2⟩) | (with_reducible exact ⟨y0,y1,y2,y3,d0,d1,d2⟩) | (with_reducible exact ⟨z0,z1,z2,z3,f0,f1,f2⟩) | go_keep)
      (first
        | (go_at_call 125;(with_reducible refine (HSZ.out _ (Mods.refl _ w1).drew).mono ?_);rintro e w2 ⟨rfl,hm2⟩;have y0:=cellE hm2 n0;have y1:=cellE hm2 n1;have y2:=cellE hm2 n2;have y3:=cellE hm2 n3;have d0:=cellE hm2 b0;have d1:=cellE hm2 b1;have d2:=cellE hm2 b2)
        | (go_at_call 16;refine (HFT.out _ ((Mods.refl _ w1).drew.trans hm2)).mono ?_;rintro e w3 ⟨rfl,hm3⟩;have z0:=cellE hm3 y0;have z1:=cellE hm3 y1;have z2:=cellE hm3 y2;have z3:=cellE hm3 y3;have f0:=cellE hm3 d0;have f1:=cellE hm3 d1;have f2:=cellE hm3 d2)
        | fail)
    all_goals
      go_wp2_with fail
      go_meet
      exact ⟨rfl,Lib.hid ((Mods.refl _ w1).drew.trans (hm2.trans hm3))⟩
  obtain ⟨rfl,HX⟩:=hcut
  have HB:=Lib.hid (HB.out.ext HX.out)
  have HD:=Lib.hid (HD.out.ext HX.out)
  have HR:=Lib.hid (HR.out.ext HX.out)
  have HO:=Lib.hid (HO.out.ext HX.out)
  have HN1:=Lib.hid (HN.out.trans (Nxt.ext HN.out.env HN.out.sub HX.out))
  have HG:=Lib.hid (HG.out.at HX.out)
  have b0:=HB.out.blk.cell (o:=0) rfl
  have b1:=HB.out.blk.cell (o:=1) rfl
  have b2:=HB.out.blk.cell (o:=2) rfl
  have n0:=HD.out.blk.cell (o:=0) rfl
  have n1:=HD.out.blk.cell (o:=1) rfl
  have n2:=HD.out.blk.cell (o:=2) rfl
  have n3:=HD.out.blk.cell (o:=3) rfl
  have hnf:¬ weightN n≤(G.size:Int) - 24:=by have:=HNF.out;omega
  obtain ⟨A,kx,B,hcut,hwa,hwb⟩:=HOK.out.cut hnf
  have HSA:Hid (settleA G l gen old n=match downI G l old A with
      | none=>.inr (downK G A)
      | some i=>match downI (downG G l gen old A) (downL G l old A) 0 B with
        | none=>.inr (downK (downG G l gen old A) B)
        | some j=>.inl (downG (downG G l gen old A) (downL G l old A) gen 0 B,downL (downG G l gen old A) (downL G l old A) 0 B,⟨i,j,kx,true,false⟩)):=Lib.hid (by
    unfold settleA;rw [if_neg hnf,hcut];simp only;rw [if_pos ⟨hwa,hwb⟩];rfl)
  have HCT:=Lib.hid (cut_any HN1.out.env n _ _ _ (HVE.out.ext HX.out) (HVK.out.ext HX.out) (HVI.out.ext HX.out) HOK.out.bytes HOK.out.few.1 HOK.out.few.2.2 HOK.out.few.2.1)
  have HCUT:=Lib.hid hcut
  have hnfb:decide (weightN n≤(G.size:Int) - 24)=false:=decide_eq_false hnf
  rw [hnfb]
  have HWA:=Lib.hid hwa
  have HWB:=Lib.hid hwb
  clear hcut hnf hnfb hwa hwb
  go_wp2_with fail
  refine HCT.out.mono ?_
  rintro e w2 ⟨hm2,⟨x,va,vb,hx,rfl,hA,hB⟩ | ⟨hno,_⟩⟩
  case inr=>rw [HCUT.out] at hno;cases hno
  rw [HCUT.out] at hx
  injection hx with hx
  subst hx
  simp only at hA hB
  obtain ⟨e1,k1,i1,rfl,oe1,ok1,oi1⟩:=hA
  obtain ⟨e2,k2,i2,rfl,oe2,ok2,oi2⟩:=hB
  have HE1:=Lib.hid oe1
  have HK1:=Lib.hid ok1
  have HI1:=Lib.hid oi1
  have HE2:=Lib.hid oe2
  have HK2:=Lib.hid ok2
  have HI2:=Lib.hid oi2
  obtain ⟨ea1,ec1,rfl,_,_⟩:=oe1.form
  obtain ⟨ka1,kc1,rfl,_,_⟩:=ok1.form
  obtain ⟨ia1,ic1,rfl,_,_⟩:=oi1.form
  obtain ⟨ea2,ec2,rfl,_,_⟩:=oe2.form
  obtain ⟨ka2,kc2,rfl,_,_⟩:=ok2.form
  obtain ⟨ia2,ic2,rfl,_,_⟩:=oi2.form
  have hw1c:=HX.out.size
  have hbase:∀ k,(F k∨(w.heap.size≤k∧k < w1.heap.size))→k < wc.heap.size:=fun k hk=>by
    rcases hk with hk | hk
    · have:=HN.out.env.lt k (.inl hk);omega
    · omega
  have HHF:=Lib.hid (cut_few HCUT.out HOK.out.few)
  have HSE1:=Lib.hid (oe1.slF hbase encE_ok.len (by have:=HHF.out.1;omega))
  have HSK1:=Lib.hid (ok1.slF hbase encS_ok.len (by have:=HHF.out.2.1;omega))
  have HSI1:=Lib.hid (oi1.slF hbase encI_ok.len (by have:=HHF.out.2.2.1;omega))
  have HSE2:=Lib.hid (oe2.slF hbase encE_ok.len (by have:=HHF.out.2.2.2.1;omega))
  have HSK2:=Lib.hid (ok2.slF hbase encS_ok.len (by have:=HHF.out.2.2.2.2.1;omega))
  have HSI2:=Lib.hid (oi2.slF hbase encI_ok.len (by have:=HHF.out.2.2.2.2.2;omega))
  obtain ⟨w3,hw3⟩:∃ w3,w3=(w2.alloc (.cells #[.bool A.leaf,.slice ea1 A.entries.length ec1,.slice ka1 A.keys.length kc1,.slice ia1 A.kids.length ic1] 26)).alloc (.cells #[.bool B.leaf,.slice ea2 B.entries.length ec2,.slice ka2 B.keys.length kc2,.slice ia2 B.kids.length ic2] 26):=⟨_,rfl⟩
  have m23:Ext w2 w3:=by rw [hw3];exact ((Mods.refl _ _).alloc _).alloc _
  have HXA:Hid (Blk w3 w2.heap.size #[.bool A.leaf,.slice ea1 A.entries.length ec1,.slice ka1 A.keys.length kc1,.slice ia1 A.kids.length ic1] 26):=Lib.hid (by rw [hw3];exact (Blk.new w2 _ _).alloc _)
  have HXB:Hid (Blk w3 (w2.heap.size+1) #[.bool B.leaf,.slice ea2 B.entries.length ec2,.slice ka2 B.keys.length kc2,.slice ia2 B.kids.length ic2] 26):=Lib.hid (by rw [hw3];exact heap_at (by simp))
  have hw2s:w.heap.size+4≤w2.heap.size:=by have:=hm2.size;omega
  have mc3:Ext wc w3:=hm2.trans m23
  have HBP:Hid (¬ P w2.heap.size∧¬ P (w2.heap.size+1)):=Lib.hid ⟨fun hp=>by have:=HG.out.bd _ hp;have:=hm2.size;omega,fun hp=>by have:=HG.out.bd _ hp;have:=hm2.size;omega⟩
  have HB3:=Lib.hid (HB.out.ext mc3)
  have HR3:=Lib.hid (HR.out.ext mc3)
  have HO3:=Lib.hid (HO.out.ext mc3)
  have HG3:=Lib.hid (HG.out.at mc3)
  have HN3:=Lib.hid (HN1.out.trans (Nxt.ext HN1.out.env HN1.out.sub mc3))
  have HSZ3:=Lib.hid (fun W (m:Ext w3 W)=>inSize_any (HG3.out.at m) gen)
  have HFA:Hid (∀ W,Ext w3 W → Calls Tryz.prog 16 #[.agg #[.bool A.leaf,.slice ea1 A.entries.length ec1,.slice ka1 A.keys.length kc1,.slice ia1 A.kids.length ic1],.int .i64 (G.size:Int)] W fun e w'=>e=.returned (.bool true)∧Ext W w'):=Lib.hid (fun W m=>by
    have:=fits_any A _ _ (.slice ia1 A.kids.length ic1) W (HSE1.out.ext (m23.trans m)) (HSK1.out.ext (m23.trans m)) (by have:=HWA.out;have:=HLIM.out;omega) (G.size:Int) (by omega) (by have:=HLIM.out;omega)
    rw [decide_eq_true HWA.out] at this
    exact this)
  have HFB:Hid (∀ W,Ext w3 W → Calls Tryz.prog 16 #[.agg #[.bool B.leaf,.slice ea2 B.entries.length ec2,.slice ka2 B.keys.length kc2,.slice ia2 B.kids.length ic2],.int .i64 (G.size:Int)] W fun e w'=>e=.returned (.bool true)∧Ext W w'):=Lib.hid (fun W m=>by
    have:=fits_any B _ _ (.slice ia2 B.kids.length ic2) W (HSE2.out.ext (m23.trans m)) (HSK2.out.ext (m23.trans m)) (by have:=HWB.out;have:=HLIM.out;omega) (G.size:Int) (by omega) (by have:=HLIM.out;omega)
    rw [decide_eq_true HWB.out] at this
    exact this)
  unfold pgV at HSZ3
  have p0:=HXA.out.cell (o:=0) rfl
  have p1:=HXA.out.cell (o:=1) rfl
  have p2:=HXA.out.cell (o:=2) rfl
  have p3:=HXA.out.cell (o:=3) rfl
  have q0:=HXB.out.cell (o:=0) rfl
  have q1:=HXB.out.cell (o:=1) rfl
  have q2:=HXB.out.cell (o:=2) rfl
  have q3:=HXB.out.cell (o:=3) rfl
  have b0:=HB3.out.blk.cell (o:=0) rfl
  have b1:=HB3.out.blk.cell (o:=1) rfl
  have b2:=HB3.out.blk.cell (o:=2) rfl
  have HM23:=Lib.hid m23
  have HW3:=Lib.hid hw3
  have xm:=(Mods.refl (fun _=>False) w3).drew
  clear oe1 ok1 oi1 oe2 ok2 oi2 hbase hw3 m23 mc3 hm2 hw1c n0 n1 n2 n3
  go_wp2_with fail
  rw [← HW3.out]
  refine wp_region_held_drew (S:=fun w'=>w'.cell? ⟨w2.heap.size,0,none⟩=some (.bool A.leaf)∧w'.cell? ⟨w2.heap.size,1,none⟩=some (.slice ea1 A.entries.length ec1)∧w'.cell? ⟨w2.heap.size,2,none⟩=some (.slice ka1 A.keys.length kc1)∧w'.cell? ⟨w2.heap.size,3,none⟩=some (.slice ia1 A.kids.length ic1)∧w'.cell? ⟨w2.heap.size+1,0,none⟩=some (.bool B.leaf)∧w'.cell? ⟨w2.heap.size+1,1,none⟩=some (.slice ea2 B.entries.length ec2)∧w'.cell? ⟨w2.heap.size+1,2,none⟩=some (.slice ka2 B.keys.length kc2)∧w'.cell? ⟨w2.heap.size+1,3,none⟩=some (.slice ia2 B.kids.length ic2)∧w'.cell? ⟨w.heap.size,0,none⟩=some (.pointer (some ⟨c,0,none⟩))∧w'.cell? ⟨w.heap.size,1,none⟩=some (.pointer (some ⟨s,0,none⟩))∧w'.cell? ⟨w.heap.size,2,none⟩=some (.int .u64 (gen:Int))) (by kernel_rfl) (by first | exact ⟨p0,p1,p2,p3,q0,q1,q2,q3,b0,b1,b2⟩ | go_keep) (fun hHeld=>?_)
  refine wpAnyH_take (i:=0) (oi:={ dst:=some 36,op:=_,type:=_,pos:=_,after:=_,guard:=_ }) (v:=?_) rfl (by kernel_rfl) (by kernel_rfl) (by kernel_rfl) (fun _ _ _ h=>h) (Or.inl ⟨by rfl,?_⟩) (by assumption) ?_
  rotate_left
  · intro w hSw;(try dsimp only at hSw);go_simp;(try (with_reducible rfl))
  rotate_left
  try simp only [Act.put,List.setIfInBounds_toArray,List.set_cons_zero,List.set_cons_succ]
  refine wpAnyH_take (i:=1) (oi:={ dst:=some 37,op:=_,type:=_,pos:=_,after:=_,guard:=_ }) (v:=?_) rfl (by kernel_rfl) (by kernel_rfl) (by kernel_rfl) (fun _ _ _ h=>h) (Or.inl ⟨by rfl,?_⟩) (by assumption) ?_
  rotate_left
  · intro w hSw;(try dsimp only at hSw);go_simp;(try (with_reducible rfl))
  rotate_left
  try simp only [Act.put,List.setIfInBounds_toArray,List.set_cons_zero,List.set_cons_succ]
  refine wpAnyH_take (i:=2) (oi:={ dst:=some 38,op:=_,type:=_,pos:=_,after:=_,guard:=_ }) (v:=?_) rfl (by kernel_rfl) (by kernel_rfl) (by kernel_rfl) (fun _ _ _ h=>h) (Or.inl ⟨by rfl,?_⟩) (by assumption) ?_
  rotate_left
  · intro w hSw;(try dsimp only at hSw);go_simp;(try (with_reducible rfl))
  rotate_left
  try simp only [Act.put,List.setIfInBounds_toArray,List.set_cons_zero,List.set_cons_succ]
  refine wpAnyH_take (i:=3) (oi:={ dst:=some 39,op:=_,type:=_,pos:=_,after:=_,guard:=_ }) (v:=?_) rfl (by kernel_rfl) (by kernel_rfl) (by kernel_rfl) (fun _ _ _ h=>h) (Or.inl ⟨by rfl,?_⟩) (by assumption) ?_
  rotate_left
  · intro w hSw;(try dsimp only at hSw);go_simp;(try (with_reducible rfl))
  rotate_left
  try simp only [Act.put,List.setIfInBounds_toArray,List.set_cons_zero,List.set_cons_succ]
  refine wpAnyH_take (i:=4) (oi:={ dst:=some 40,op:=_,type:=_,pos:=_,after:=_,guard:=_ }) (v:=?_) rfl (by kernel_rfl) (by kernel_rfl) (by kernel_rfl) (fun _ _ _ h=>h) (Or.inl ⟨by rfl,?_⟩) (by assumption) ?_
  rotate_left
  · intro w hSw;(try dsimp only at hSw);go_simp;(try (with_reducible rfl))
  rotate_left
  try simp only [Act.put,List.setIfInBounds_toArray,List.set_cons_zero,List.set_cons_succ]
  refine wpAnyH_ready (rs:=[5]) (by kernel_rfl) (by simp) ?_
  refine AllReadyH.cons (o:={ dst:=some 41,op:=_,type:=_,pos:=_,after:=_,guard:=_ }) rfl (fun K hK=>?_) AllReadyH.nil
  go_simp
  (go_at_call 125;refine (HSZ3.out _ xm).mono ?_;rintro e wy ⟨rfl,hmy⟩;have p0:=cellE (w:=w3.drew) hmy p0;have p1:=cellE (w:=w3.drew) hmy p1;have p2:=cellE (w:=w3.drew) hmy p2;have p3:=cellE (w:=w3.drew) hmy p3;have q0:=cellE (w:=w3.drew) hmy q0;have q1:=cellE (w:=w3.drew) hmy q1;have q2:=cellE (w:=w3.drew) hmy q2;have q3:=cellE (w:=w3.drew) hmy q3;have b0:=cellE (w:=w3.drew) hmy b0;have b1:=cellE (w:=w3.drew) hmy b1;have b2:=cellE (w:=w3.drew) hmy b2;have xm:=xm.trans hmy;clear hmy)
  refine hK.out _ _ ⟨p0,p1,p2,p3,q0,q1,q2,q3,b0,b1,b2⟩ (fun hHeld=>?_)
  clear hK
  try simp only [Act.put,List.setIfInBounds_toArray,List.set_cons_zero,List.set_cons_succ]
  refine wpAnyH_ready (rs:=[6]) (by kernel_rfl) (by simp) ?_
  refine AllReadyH.cons (o:={ dst:=some 42,op:=_,type:=_,pos:=_,after:=_,guard:=_ }) rfl (fun K hK=>?_) AllReadyH.nil
  go_simp
  (go_at_call 16;refine (HFA.out _ xm).mono ?_;rintro e wy ⟨rfl,hmy⟩;have p0:=cellE hmy p0;have p1:=cellE hmy p1;have p2:=cellE hmy p2;have p3:=cellE hmy p3;have q0:=cellE hmy q0;have q1:=cellE hmy q1;have q2:=cellE hmy q2;have q3:=cellE hmy q3;have b0:=cellE hmy b0;have b1:=cellE hmy b1;have b2:=cellE hmy b2;have xm:=xm.trans hmy;clear hmy)
  refine hK.out _ _ ⟨p0,p1,p2,p3,q0,q1,q2,q3,b0,b1,b2⟩ (fun hHeld=>?_)
  clear hK
  try simp only [Act.put,List.setIfInBounds_toArray,List.set_cons_zero,List.set_cons_succ]
  refine wpAnyH_take (i:=7) (oi:={ dst:=some 43,op:=_,type:=_,pos:=_,after:=_,guard:=_ }) (v:=?_) rfl (by kernel_rfl) (by kernel_rfl) (by kernel_rfl) (fun _ _ _ h=>h) (Or.inl ⟨by rfl,?_⟩) (by assumption) ?_
  rotate_left
  · intro w hSw;(try dsimp only at hSw);go_simp;(try (with_reducible rfl))
  rotate_left
  try simp only [Act.put,List.setIfInBounds_toArray,List.set_cons_zero,List.set_cons_succ]
  refine wpAnyH_take (i:=8) (oi:={ dst:=some 44,op:=_,type:=_,pos:=_,after:=_,guard:=_ }) (v:=?_) rfl (by kernel_rfl) (by kernel_rfl) (by kernel_rfl) (fun _ _ _ h=>h) (Or.inl ⟨by rfl,?_⟩) (by assumption) ?_
  rotate_left
  · intro w hSw;(try dsimp only at hSw);go_simp;(try (with_reducible rfl))
  rotate_left
  try simp only [Act.put,List.setIfInBounds_toArray,List.set_cons_zero,List.set_cons_succ]
  refine wpAnyH_take (i:=9) (oi:={ dst:=some 45,op:=_,type:=_,pos:=_,after:=_,guard:=_ }) (v:=?_) rfl (by kernel_rfl) (by kernel_rfl) (by kernel_rfl) (fun _ _ _ h=>h) (Or.inl ⟨by rfl,?_⟩) (by assumption) ?_
  rotate_left
  · intro w hSw;(try dsimp only at hSw);go_simp;(try (with_reducible rfl))
  rotate_left
  try simp only [Act.put,List.setIfInBounds_toArray,List.set_cons_zero,List.set_cons_succ]
  refine wpAnyH_take (i:=10) (oi:={ dst:=some 46,op:=_,type:=_,pos:=_,after:=_,guard:=_ }) (v:=?_) rfl (by kernel_rfl) (by kernel_rfl) (by kernel_rfl) (fun _ _ _ h=>h) (Or.inl ⟨by rfl,?_⟩) (by assumption) ?_
  rotate_left
  · intro w hSw;(try dsimp only at hSw);go_simp;(try (with_reducible rfl))
  rotate_left
  try simp only [Act.put,List.setIfInBounds_toArray,List.set_cons_zero,List.set_cons_succ]
  refine wpAnyH_take (i:=11) (oi:={ dst:=some 47,op:=_,type:=_,pos:=_,after:=_,guard:=_ }) (v:=?_) rfl (by kernel_rfl) (by kernel_rfl) (by kernel_rfl) (fun _ _ _ h=>h) (Or.inl ⟨by rfl,?_⟩) (by assumption) ?_
  rotate_left
  · intro w hSw;(try dsimp only at hSw);go_simp;(try (with_reducible rfl))
  rotate_left
  try simp only [Act.put,List.setIfInBounds_toArray,List.set_cons_zero,List.set_cons_succ]
  refine wpAnyH_ready (rs:=[12]) (by kernel_rfl) (by simp) ?_
  refine AllReadyH.cons (o:={ dst:=some 48,op:=_,type:=_,pos:=_,after:=_,guard:=_ }) rfl (fun K hK=>?_) AllReadyH.nil
  go_simp
  (go_at_call 125;refine (HSZ3.out _ xm).mono ?_;rintro e wy ⟨rfl,hmy⟩;have p0:=cellE hmy p0;have p1:=cellE hmy p1;have p2:=cellE hmy p2;have p3:=cellE hmy p3;have q0:=cellE hmy q0;have q1:=cellE hmy q1;have q2:=cellE hmy q2;have q3:=cellE hmy q3;have b0:=cellE hmy b0;have b1:=cellE hmy b1;have b2:=cellE hmy b2;have xm:=xm.trans hmy;clear hmy)
  refine hK.out _ _ ⟨p0,p1,p2,p3,q0,q1,q2,q3,b0,b1,b2⟩ (fun hHeld=>?_)
  clear hK
  try simp only [Act.put,List.setIfInBounds_toArray,List.set_cons_zero,List.set_cons_succ]
  refine wpAnyH_ready (rs:=[13]) (by kernel_rfl) (by simp) ?_
  refine AllReadyH.cons (o:={ dst:=some 49,op:=_,type:=_,pos:=_,after:=_,guard:=_ }) rfl (fun K hK=>?_) AllReadyH.nil
  go_simp
  (go_at_call 16;refine (HFB.out _ xm).mono ?_;rintro e wy ⟨rfl,hmy⟩;have p0:=cellE hmy p0;have p1:=cellE hmy p1;have p2:=cellE hmy p2;have p3:=cellE hmy p3;have q0:=cellE hmy q0;have q1:=cellE hmy q1;have q2:=cellE hmy q2;have q3:=cellE hmy q3;have b0:=cellE hmy b0;have b1:=cellE hmy b1;have b2:=cellE hmy b2;have xm:=xm.trans hmy;clear hmy)
  refine hK.out _ _ ⟨p0,p1,p2,p3,q0,q1,q2,q3,b0,b1,b2⟩ (fun hHeld=>?_)
  clear hK
  try simp only [Act.put,List.setIfInBounds_toArray,List.set_cons_zero,List.set_cons_succ]
  refine wpAnyH_take (i:=14) (oi:={ dst:=some 50,op:=_,type:=_,pos:=_,after:=_,guard:=_ }) (v:=?_) rfl (by kernel_rfl) (by kernel_rfl) (by kernel_rfl) (fun _ _ _ h=>h) (Or.inl ⟨by rfl,?_⟩) (by assumption) ?_
  rotate_left
  · intro w hSw;(try dsimp only at hSw);go_simp;(try (with_reducible rfl))
  rotate_left
  try simp only [Act.put,List.setIfInBounds_toArray,List.set_cons_zero,List.set_cons_succ]
  refine wpAnyH_take (i:=15) (oi:={ dst:=some 51,op:=_,type:=_,pos:=_,after:=_,guard:=_ }) (v:=?_) rfl (by kernel_rfl) (by kernel_rfl) (by kernel_rfl) (fun _ _ _ h=>h) (Or.inl ⟨by rfl,?_⟩) (by assumption) ?_
  rotate_left
  · intro w hSw;(try dsimp only at hSw);go_simp;(try (with_reducible rfl))
  rotate_left
  try simp only [Act.put,List.setIfInBounds_toArray,List.set_cons_zero,List.set_cons_succ]
  have HB4:=Lib.hid (HB3.out.ext xm)
  have HR4:=Lib.hid (HR3.out.ext xm)
  have hO4:=HO3.out.ext xm
  have HG4:=Lib.hid (HG3.out.at xm)
  have HN4:=Lib.hid (HN3.out.trans (Nxt.ext HN3.out.env HN3.out.sub xm))
  have HXA4:=Lib.hid (HXA.out.ext xm)
  have HXB4:=Lib.hid (HXB.out.ext xm)
  have o0:=hO4.blk.cell (o:=0) rfl
  have o1:=hO4.blk.cell (o:=1) rfl
  have o2:=hO4.blk.cell (o:=2) rfl
  have o3:=hO4.blk.cell (o:=3) rfl
  have o4:=hO4.blk.cell (o:=4) rfl
  have of:=hO4.blk.frozen
  have mO:Mods (fun k=>k=w.heap.size+1+1+1) wy ((wy.setCell ⟨w.heap.size+1+1+1,2,none⟩ (.string kx)).setCell ⟨w.heap.size+1+1+1,3,none⟩ (.bool true)):=((Mods.refl (fun k=>k=w.heap.size+1+1+1) wy).setCell (p:=⟨w.heap.size+1+1+1,2,none⟩) (.inr rfl) _).setCell (p:=⟨w.heap.size+1+1+1,3,none⟩) (.inr rfl) _
  have hO5:VarR (fun k=>F k∨(w.heap.size≤k∧k < w1.heap.size)) P w ((wy.setCell ⟨w.heap.size+1+1+1,2,none⟩ (.string kx)).setCell ⟨w.heap.size+1+1+1,3,none⟩ (.bool true)) (w.heap.size+1+1+1) #[.int .i64 0,.int .i64 0,.string kx,.bool true,.bool false] 127:=by
    simpa using (hO4.put 2 (.string kx)).put 3 (.bool true)
  have HO5:=Lib.hid hO5
  have HG5:=Lib.hid (HG4.out.var hO4 mO)
  have HN5:=Lib.hid (HN4.out.var hO4 mO)
  have hmF:=hO4.mF mO
  have HB5:=Lib.hid (HB4.out.other mO (by omega))
  have HR5:=Lib.hid (HR4.out.other mO (by omega))
  have HXA5:=Lib.hid (HXA4.out.mods mO (by omega))
  have HXB5:=Lib.hid (HXB4.out.mods mO (by omega))
  have HS5:=Lib.hid (fun (α:Type) (sz:Nat) (enc:α→List Value) (v:Value) (l:List α) (h:Sl (fun k=>F k∨(w.heap.size≤k∧k < w1.heap.size)) w2 sz enc v l)=>((h.ext (HM23.out.trans xm)).mods hmF))
  have HBY:Hid ((rightN A=true→(bytesN A).length≤100000)∧(rightN B=true→(bytesN B).length≤100000)):=Lib.hid ⟨fun hr=>by have:=weight_len (form_right hr);have:=HWA.out;have:=HLIM.out;omega,fun hr=>by have:=weight_len (form_right hr);have:=HWB.out;have:=HLIM.out;omega⟩
  have HDA:=Lib.hid (down_any HN5.out.env HN5.out.sub HG5.out gen old hgen A _ _ _ (HS5.out _ _ _ _ _ HSE1.out) (HS5.out _ _ _ _ _ HSK1.out) (HS5.out _ _ _ _ _ HSI1.out) HBY.out.1 HOK.out.place.ok HOK.out.place.two (HOK.out.place.lt (by have:=HLIM.out;omega)) HOK.out.len (by have:=HOK.out.cost;omega))
  unfold pgV at HDA
  have hneA:w2.heap.size ≠ w.heap.size+1+1+1:=by omega
  have hneA2:w.heap.size+1+1+1 ≠ w2.heap.size:=by omega
  have hneB:w2.heap.size+1 ≠ w.heap.size+1+1+1:=by omega
  have hneB2:w.heap.size+1+1+1 ≠ w2.heap.size+1:=by omega
  clear xm hO4 mO hO5 hmF
  refine wpAnyH_done (by kernel_rfl) ?_ _
  go_wp2_with fail
  refine HDA.out.mono ?_
  rintro e w6 ⟨P6,F6,hG6,hN6,hr⟩
  have hO6:=HO5.out.nxt hN6
  have HR6:=Lib.hid (HR5.out.nxt hN6)
  have HB6:=Lib.hid (HB5.out.nxt hN6)
  have HXB6:=Lib.hid (hN6.blk HXB5.out HBP.out.2)
  have HBP6:=Lib.hid (hN6.not HXB5.out.lt HBP.out.2)
  have HG6:=Lib.hid hG6
  have HN6:=Lib.hid (HN5.out.trans hN6)
  have HSE6:=Lib.hid (hN6.sl HN5.out.sub (HS5.out _ _ _ _ _ HSE2.out))
  have HSK6:=Lib.hid (hN6.sl HN5.out.sub (HS5.out _ _ _ _ _ HSK2.out))
  have HSI6:=Lib.hid (hN6.sl HN5.out.sub (HS5.out _ _ _ _ _ HSI2.out))
  have o0:=hO6.blk.cell (o:=0) rfl
  have o1:=hO6.blk.cell (o:=1) rfl
  have o2:=hO6.blk.cell (o:=2) rfl
  have o3:=hO6.blk.cell (o:=3) rfl
  have o4:=hO6.blk.cell (o:=4) rfl
  have of:=hO6.blk.frozen
  have r0:=HR6.out.blk.cell (o:=0) rfl
  have r1:=HR6.out.blk.cell (o:=1) rfl
  have r2:=HR6.out.blk.cell (o:=2) rfl
  have r3:=HR6.out.blk.cell (o:=3) rfl
  have r4:=HR6.out.blk.cell (o:=4) rfl
  have rf:=HR6.out.blk.frozen
  have b0:=HB6.out.blk.cell (o:=0) rfl
  have b1:=HB6.out.blk.cell (o:=1) rfl
  have b2:=HB6.out.blk.cell (o:=2) rfl
  have q0:=HXB6.out.cell (o:=0) rfl
  have q1:=HXB6.out.cell (o:=1) rfl
  have q2:=HXB6.out.cell (o:=2) rfl
  have q3:=HXB6.out.cell (o:=3) rfl
  have HO6:=Lib.hid hO6
  have HFR1:Hid (FrG G l (downG G l gen old A) (downL G l old A)∧(downG G l gen old A).cost≤G.cost+1):=Lib.hid ⟨fr_down HOK.out.place (by rw [HOK.out.low.1];simp),(downG_lim G l gen old A).2.2⟩
  clear hG6 hN6 hO6 p0 p1 p2 p3
  rcases hr with ⟨i,hi,rfl⟩ | ⟨hi,f,el,rfl,hE⟩
  · have mO:=Mods.at (fun k=>k=w.heap.size+1+1+1) w6 (w.heap.size+1+1+1) 0 (.int .i64 (i:Int)) rfl
    have hO7:VarR F6 P6 w (w6.setCell ⟨w.heap.size+1+1+1,0,none⟩ (.int .i64 (i:Int))) (w.heap.size+1+1+1) #[.int .i64 (i:Int),.int .i64 0,.string kx,.bool true,.bool false] 127:=by
      simpa using HO6.out.put 0 (.int .i64 (i:Int))
    have HO7:=Lib.hid hO7
    have HG7:=Lib.hid (HG6.out.var HO6.out mO)
    have HN7:=Lib.hid (HN6.out.var HO6.out mO)
    have hmF:=HO6.out.mF mO
    have HR7:=Lib.hid (HR6.out.other mO (by omega))
    have HDB:=Lib.hid (down_any HN7.out.env HN7.out.sub HG7.out gen 0 hgen B _ _ _ (HSE6.out.mods hmF) (HSK6.out.mods hmF) (HSI6.out.mods hmF) HBY.out.2 (.inl rfl) (.inl rfl) (by omega) (by have:=(downG_lim G l gen old A).2.1;have:=HFR1.out.1.len;have:=HOK.out.len;omega) (by have:=HFR1.out.2;have:=HOK.out.cost;omega))
    unfold pgV at HDB
    have HI:=Lib.hid hi
    clear hi mO hO7 hmF
    go_wp2_with fail
    refine HDB.out.mono ?_
    rintro e w8 ⟨P8,F8,hG8,hN8,hr⟩
    have hO8:=HO7.out.nxt hN8
    have HR8:=Lib.hid (HR7.out.nxt hN8)
    have HG8:=Lib.hid hG8
    have HN8:=Lib.hid (HN7.out.trans hN8)
    have o0:=hO8.blk.cell (o:=0) rfl
    have o1:=hO8.blk.cell (o:=1) rfl
    have o2:=hO8.blk.cell (o:=2) rfl
    have o3:=hO8.blk.cell (o:=3) rfl
    have o4:=hO8.blk.cell (o:=4) rfl
    have of:=hO8.blk.frozen
    have r0:=HR8.out.blk.cell (o:=0) rfl
    have r1:=HR8.out.blk.cell (o:=1) rfl
    have r2:=HR8.out.blk.cell (o:=2) rfl
    have r3:=HR8.out.blk.cell (o:=3) rfl
    have r4:=HR8.out.blk.cell (o:=4) rfl
    have rf:=HR8.out.blk.frozen
    have HO8:=Lib.hid hO8
    clear hG8 hN8 hO8
    rcases hr with ⟨j,hj,rfl⟩ | ⟨hj,f,el,rfl,hE⟩
    · have HS9:Hid (settleA G l gen old n=.inl (downG (downG G l gen old A) (downL G l old A) gen 0 B,downL (downG G l gen old A) (downL G l old A) 0 B,⟨i,j,kx,true,false⟩)):=Lib.hid (by rw [HSA.out,HI.out];simp only;rw [hj])
      clear hj
      go_wp2_with fail
      have mO:=Mods.at (fun k=>k=w.heap.size+1+1+1) w8 (w.heap.size+1+1+1) 1 (.int .i64 (j:Int)) rfl
      have g3:=HG8.out.var HO8.out mO
      have n3:=HN8.out.var HO8.out mO
      have r3:=HR8.out.other mO (by omega)
      have mR:=Mods.set5 (F:=fun k=>k=w.heap.size+1+1) (Mods.refl _ (w8.setCell ⟨w.heap.size+1+1+1,1,none⟩ (.int .i64 (j:Int)))) (R:=w.heap.size+1+1) (.inr rfl) (.int .i64 (i:Int)) (.int .i64 (j:Int)) (.string kx) (.bool true) (.bool false)
      have bR:=r3.blk.set5 (.int .i64 (i:Int)) (.int .i64 (j:Int)) (.string kx) (.bool true) (.bool false)
      refine bodyPost_ret (results_row_tmp rfl _ _ (w.heap.size+1+1) 127 _ _ rfl bR Tryz.underlying127 rfl Tryz.outSz) rfl ?_
      exact ⟨P8,F8,_,_,g3.var r3 mR,n3.var r3 mR,.inl ⟨_,HS9.out,rfl⟩⟩
    · have HS9:Hid (settleA G l gen old n=.inr (downK (downG G l gen old A) B)):=Lib.hid (by rw [HSA.out,HI.out];simp only;rw [hj])
      have HFR2:Hid (FrG G l (downG (downG G l gen old A) (downL G l old A) gen 0 B) (downL (downG G l gen old A) (downL G l old A) 0 B)):=Lib.hid (HFR1.out.1.trans (fr_down (.inl rfl) (by rw [(HFR1.out.1.lowL HOK.out.low).1];simp)))
      have HE:=Lib.hid hE
      clear hj hE
      go_wp2_with fail
      have mO:=Mods.at (fun k=>k=w.heap.size+1+1+1) w8 (w.heap.size+1+1+1) 1 (.int .i64 0) rfl
      have g3:=HG8.out.var HO8.out mO
      have n3:=HN8.out.var HO8.out mO
      have r3:=HR8.out.other mO (by omega)
      have mR:=Mods.set5 (F:=fun k=>k=w.heap.size+1+1) (Mods.refl _ (w8.setCell ⟨w.heap.size+1+1+1,1,none⟩ (.int .i64 0))) (R:=w.heap.size+1+1) (.inr rfl) (.int .i64 (i:Int)) (.int .i64 0) (.string kx) (.bool true) (.bool false)
      have bR:=r3.blk.set5 (.int .i64 (i:Int)) (.int .i64 0) (.string kx) (.bool true) (.bool false)
      refine bodyPost_ret (results_row_tmp rfl _ _ (w.heap.size+1+1) 127 _ _ rfl bR Tryz.underlying127 rfl Tryz.outSz) rfl ?_
      exact ⟨P8,F8,_,_,g3.var r3 mR,n3.var r3 mR,.inr ⟨_,⟨i,0,kx,true,false⟩,_,_,HS9.out,HFR2.out,rfl,(HE.out.mods (HO8.out.mF mO)).mods (r3.mF mR)⟩⟩
  · have HS9:Hid (settleA G l gen old n=.inr (downK G A)):=Lib.hid (by rw [HSA.out,hi])
    have HE:=Lib.hid hE
    clear hi hE
    go_wp2_with fail
    have mO:=Mods.at (fun k=>k=w.heap.size+1+1+1) w6 (w.heap.size+1+1+1) 0 (.int .i64 0) rfl
    have g3:=HG6.out.var HO6.out mO
    have n3:=HN6.out.var HO6.out mO
    have r3:=HR6.out.other mO (by omega)
    have mR:=Mods.set5 (F:=fun k=>k=w.heap.size+1+1) (Mods.refl _ (w6.setCell ⟨w.heap.size+1+1+1,0,none⟩ (.int .i64 0))) (R:=w.heap.size+1+1) (.inr rfl) (.int .i64 0) (.int .i64 0) (.string kx) (.bool true) (.bool false)
    have bR:=r3.blk.set5 (.int .i64 0) (.int .i64 0) (.string kx) (.bool true) (.bool false)
    refine bodyPost_ret (results_row_tmp rfl _ _ (w.heap.size+1+1) 127 _ _ rfl bR Tryz.underlying127 rfl Tryz.outSz) rfl ?_
    exact ⟨P6,F6,_,_,g3.var r3 mR,n3.var r3 mR,.inr ⟨_,⟨0,0,kx,true,false⟩,_,_,HS9.out,HFR1.out.1,rfl,(HE.out.mods (HO6.out.mF mO)).mods (r3.mF mR)⟩⟩
set_option maxHeartbeats 4000000 in
theorem settle_any (n:NodeA) (hL:Env F ad w) (hP:∀ k,P k→F k) (h:PgR F w P c s G l) (gen old:Nat) (hgen:gen < 18446744073709551616) (ve vk vi:Value) (hve:Sl F w 4 encE ve n.entries) (hvk:Sl F w 1 encS vk n.keys) (hvi:Sl F w 1 encI vi n.kids) (hok:SetOk G l old n) :
    Calls Tryz.prog 123 #[pgV c s gen,.int .i64 (old:Int),.agg #[.bool n.leaf,ve,vk,vi]] w (OutP F P ad w c s G l (settleA G l gen old n)):=by
  by_cases hf:weightN n≤(G.size:Int) - 24
  · exact settleF_any n hf hL hP h gen old hgen ve vk vi hve hvk hvi hok
  · exact settleC_any n hf hL hP h gen old hgen ve vk vi hve hvk hvi hok
end
theorem Tryz.entSz:(Tryz.prog.info? 107).map (·.size)=some 4:=by kernel_rfl
section
variable {P P' F F':Nat→Prop} {ad:Nat→Addr} {w w':World} {c s:Nat} {G:GA} {l:List Nat}
set_option maxRecDepth 100000 in
theorem entryS_any (gen:Nat) (key v:ByteArray) (hv:v.size≤24) :
    Calls Tryz.prog 122 #[pgV c s gen,.string key,.string v] w fun e w'=>e=.returned (.tuple #[.agg #[.string key,.string v,.int .i64 0,.int .i64 0],.nilIface])∧Ext w w':=by
  have hv2:(v.size:Int)≤24:=by omega
  have HB:Hid (Blk ((w.alloc (.cells #[.pointer (some ⟨c,0,none⟩),.pointer (some ⟨s,0,none⟩),.int .u64 (gen:Int)] 45)).alloc (.cells #[.string key,.string v,.int .i64 0,.int .i64 0] 107)) (w.heap.size+1) #[.string key,.string v,.int .i64 0,.int .i64 0] 107):=Lib.hid (heap_at (by simp))
  have HM:Hid (Ext w ((w.alloc (.cells #[.pointer (some ⟨c,0,none⟩),.pointer (some ⟨s,0,none⟩),.int .u64 (gen:Int)] 45)).alloc (.cells #[.string key,.string v,.int .i64 0,.int .i64 0] 107))):=Lib.hid (((Mods.refl _ w).alloc _).alloc _)
  clear hv
  unfold pgV
  go_enter Tryz.func122, Tryz.ntmps122
  go_wp2_with fail
  refine bodyPost_ret (results_row_tmp rfl _ _ (w.heap.size+1) 107 _ _ rfl HB.out Tryz.underlying107 rfl Tryz.entSz) rfl ?_
  exact ⟨rfl,HM.out⟩
end
abbrev entC (e:EntryA):Array Value:=#[.string e.key,.string e.value,.int .i64 e.chain,.int .i64 e.size]
abbrev entZc:Array Value:=#[.string ⟨#[]⟩,.string ⟨#[]⟩,.int .i64 0,.int .i64 0]
def EntP (F P:Nat→Prop) (ad:Nat→Addr) (w:World) (c s:Nat) (G:GA) (l:List Nat) (r:StA EntryA) (e:Ending) (w':World):Prop :=
  ∃ (P' F':Nat→Prop) (G':GA) (l':List Nat),PgR F' w' P' c s G' l'∧Nxt P P' F F' ad w w' ∧
    ((∃ en, r = .inl (G', l', en) ∧ e = .returned (.tuple #[.agg (entC en), .nilIface])) ∨
     (∃ k en f el,r=.inr k∧FrG G l G' l'∧G'.cost≤G.cost∧e=.returned (.tuple #[.agg (entC en),faultV f])∧ErrC F' ad w' (faultV f) el k))
section
variable {P P' F F':Nat→Prop} {ad:Nat→Addr} {w w':World} {c s:Nat} {G:GA} {l:List Nat}
set_option maxRecDepth 100000 in
set_option maxHeartbeats 2000000 in
theorem entryL_any (hL:Env F ad w) (hP:∀ k,P k→F k) (h:PgR F w P c s G l) (gen:Nat) (hgen:gen < 18446744073709551616) (key v:ByteArray) (h25:25≤v.size) (h4096:v.size≤4096) (hlow:LowL l) (hlb:l.length=G.blocks) (hco:G.cost+100≤1000000) :
    Calls Tryz.prog 122 #[pgV c s gen,.string key,.string v] w (EntP F P ad w c s G l (entryP G l gen key v)):=by
  obtain ⟨w1,hw1⟩:∃ w1,w1=(w.alloc (.cells #[.pointer (some ⟨c,0,none⟩),.pointer (some ⟨s,0,none⟩),.int .u64 (gen:Int)] 45)).alloc (.cells entZc 107):=⟨_,rfl⟩
  have m0:Ext w w1:=by rw [hw1];exact ((Mods.refl _ w).alloc _).alloc _
  have hz:w1.heap.size=w.heap.size+2:=by rw [hw1];simp
  have hN:Nxt P P F (fun k=>F k∨(w.heap.size≤k∧k < w1.heap.size)) ad w w1:=Nxt.new hL hP (Q:=fun k=>w.heap.size≤k∧k < w1.heap.size) m0 (fun k hk=>hk.1) (fun k hk=>hk.2)
  have HR:=Lib.hid (show VarR (fun k=>F k∨(w.heap.size≤k∧k < w1.heap.size)) P w w1 (w.heap.size+1) entZc 107 from ⟨by rw [hw1];exact heap_at (by simp),.inr ⟨by omega,by omega⟩,fun hp=>by have:=h.bd _ hp;omega,by omega⟩)
  have hB:Blk w1 w.heap.size #[.pointer (some ⟨c,0,none⟩),.pointer (some ⟨s,0,none⟩),.int .u64 (gen:Int)] 45:=by rw [hw1];exact (Blk.new w _ _).alloc _
  have HG:=Lib.hid (h.plusNew hP (Q:=fun k=>w.heap.size≤k∧k < w1.heap.size) m0 (fun k hk=>hk.1))
  have HN:=Lib.hid hN
  have HWR:=Lib.hid (chWrite_any hN.env hN.sub HG.out gen hgen v h25 h4096 hlow.ok hlb hco)
  have b0:=hB.cell (o:=0) rfl
  have b1:=hB.cell (o:=1) rfl
  have b2:=hB.cell (o:=2) rfl
  have hvi:¬ (v.size:Int)≤24:=by omega
  have HEP:Hid (entryP G l gen key v=match takeA (needN v.size G.size).toNat l with
    | some (ids,l1)=>.inl (chPuts gen v.data.toList (G.size - 28) ids ids.length G,l1,⟨key,e0,((ids.getD 0 0:Nat):Int),(v.size:Int)⟩)
    | none=>.inr 3):=Lib.hid (by unfold entryP;rw [if_neg (by omega)];rfl)
  have HW1:=Lib.hid hw1
  clear hL hP h m0 hN hw1 hB hlow hlb hco
  unfold pgV at HWR ⊢
  go_enter Tryz.func122, Tryz.ntmps122
  go_wp2_with fail
  rw [← HW1.out]
  refine HWR.out.mono ?_
  rintro e w2 ⟨P2,F2,G2,l2,hG2,hN2,hr⟩
  have hR2:=HR.out.nxt hN2
  have HG2:=Lib.hid hG2
  have HN2:=Lib.hid (HN.out.trans hN2)
  have r0:=hR2.blk.cell (o:=0) rfl
  have r1:=hR2.blk.cell (o:=1) rfl
  have r2:=hR2.blk.cell (o:=2) rfl
  have r3:=hR2.blk.cell (o:=3) rfl
  have rf:=hR2.blk.frozen
  have HR2:=Lib.hid hR2
  clear hG2 hN2 hR2
  rcases hr with ⟨ids,h1,_,_,rfl,rfl⟩ | ⟨a,f,h1,rfl,rfl,h4,rfl,hE⟩
  · have HS:=Lib.hid (HEP.out.trans (by rw [h1]))
    clear h1
    go_wp2_with fail
    have mR:=Mods.set4 (F:=fun k=>k=w.heap.size+1) (Mods.refl _ w2) (R:=w.heap.size+1) (.inr rfl) (.string key) (.string ⟨#[]⟩) (.int .i64 ((ids.getD 0 0:Nat):Int)) (.int .i64 (v.size:Int))
    have bR:=HR2.out.blk.set4 (.string key) (.string ⟨#[]⟩) (.int .i64 ((ids.getD 0 0:Nat):Int)) (.int .i64 (v.size:Int))
    refine bodyPost_ret (results_row_tmp rfl _ _ (w.heap.size+1) 107 _ _ rfl bR Tryz.underlying107 rfl Tryz.entSz) rfl ?_
    exact ⟨P2,F2,_,_,HG2.out.var HR2.out mR,HN2.out.var HR2.out mR,.inl ⟨_,HS.out,rfl⟩⟩
  · have HS:=Lib.hid (HEP.out.trans (by rw [h1]))
    have HFR:=Lib.hid (fr_giveFree a G _ h4)
    have HE:=Lib.hid hE
    clear h1 h4 hE
    go_wp2_with fail
    have mR:=Mods.set4 (F:=fun k=>k=w.heap.size+1) (Mods.refl _ w2) (R:=w.heap.size+1) (.inr rfl) (.string key) (.string ⟨#[]⟩) (.int .i64 0) (.int .i64 (v.size:Int))
    have bR:=HR2.out.blk.set4 (.string key) (.string ⟨#[]⟩) (.int .i64 0) (.int .i64 (v.size:Int))
    refine bodyPost_ret (results_row_tmp rfl _ _ (w.heap.size+1) 107 _ _ rfl bR Tryz.underlying107 rfl Tryz.entSz) rfl ?_
    exact ⟨P2,F2,_,_,HG2.out.var HR2.out mR,HN2.out.var HR2.out mR,.inr ⟨3,⟨key,⟨#[]⟩,0,(v.size:Int)⟩,f,_,HS.out,HFR.out,by rw [(giveG_same a G).2.2.1];exact Nat.le_refl _,rfl,HE.out.mods (HR2.out.mF mR)⟩⟩
theorem entry_any (hL:Env F ad w) (hP:∀ k,P k→F k) (h:PgR F w P c s G l) (gen:Nat) (hgen:gen < 18446744073709551616) (key v:ByteArray) (h4096:v.size≤4096) (hlow:LowL l) (hlb:l.length=G.blocks) (hco:G.cost+100≤1000000) :
    Calls Tryz.prog 122 #[pgV c s gen,.string key,.string v] w (EntP F P ad w c s G l (entryP G l gen key v)):=by
  by_cases h24:v.size≤24
  · refine (entryS_any gen key v h24).mono ?_
    rintro e w' ⟨rfl,hm⟩
    have hN:=Nxt.ext hL hP hm
    refine ⟨P,F,G,l,h.at hm,hN,.inl ⟨⟨key,v,0,0⟩,?_,rfl⟩⟩
    unfold entryP;rw [if_pos h24]
  · exact entryL_any hL hP h gen hgen key v (by omega) h4096 hlow hlb hco
end
end Go.Proofs.YtphafjmdhmpkbaaGreatDoor
